/- RealBack: a float comes back from its text, and a text that is parsed is the text of what comes of it. -/
import Derived.Test.YtjaeligjcgjamaaDoorDParseW
import Derived.Test.YtjaeligjcgjamaaDoorDWalks
namespace Go.Proofs.YtjaeligjcgjamaaDoor.DLawBack
open Go.RowKit Go.Proofs.YtjaeligjcgjamaaDoor.PRealOrder Go.Proofs.YtjaeligjcgjamaaDoorW.PrintWords Go.Proofs.YtjaeligjcgjamaaDoorW.PrintLast Go.Proofs.YtjaeligjcgjamaaDoorW.PrintMore Go.Proofs.YtjaeligjcgjamaaDoor.Aid Go.Proofs.YtjaeligjcgjamaaDoor.FloatPlain Go.Proofs.YtjaeligjcgjamaaDoor.DRealPure Go.Proofs.YtjaeligjcgjamaaDoor.DWorks Go.Proofs.YtjaeligjcgjamaaDoor.DTxt Go.Proofs.YtjaeligjcgjamaaDoor.DTextW Go.Proofs.YtjaeligjcgjamaaDoor.DParseW
set_option linter.unusedVariables false
set_option linter.unusedSimpArgs false
theorem txt_len (a : Nat) (h : a < 18446744073709551616) : (txt a).length ≤ 60 := by
  have hb : ∀ E f, E ≤ 2047 → (body E f).length ≤ 50 := fun E f hE => by
    have h1 := Lib.itoa_length_le (expo E) (by unfold expo; split <;> omega) (by unfold expo; split <;> omega)
    have h2 : (frac f).length ≤ 14 := by
      unfold frac
      split
      · simp
      · have := trim_le (h13 f) 48
        rw [h13_length] at this
        rw [List.length_cons]
        omega
    unfold body
    simp only [List.length_append, List.length_cons, List.length_nil]
    omega
  have hm : (DTxt.mag (rg a)).length ≤ 50 := by
    unfold DTxt.mag
    split
    · simp
    · split
      · simp
      · exact hb _ _ (by unfold rg; omega)
  unfold txt
  split
  · simp
  · rw [List.length_append]
    have : (if 9223372036854775808 ≤ a then [(45 : UInt8)] else []).length ≤ 1 := by split <;> simp
    omega
theorem back {a v : Nat} {er : Int} (h : a < 18446744073709551616) (hA : Ans (txt a) v er) : er = 0 ∧ (v = a ∨ (v ≠ a ∧ 9218868437227405312 < rg a)) := by
  rcases hA with ⟨h1, h2, h3⟩ | ⟨h1, h2, h3⟩
  · refine ⟨h3, ?_⟩
    by_cases hn : 9218868437227405312 < rg a
    · by_cases he : v = a
      · exact .inl he
      · exact .inr ⟨he, hn⟩
    · exact .inl (txt_inj h1 ⟨h, fun h4 => absurd h4 hn⟩ h2)
  · exfalso
    by_cases hn : 9218868437227405312 < rg a
    · refine h1 9221120237041090560 ⟨by decide, fun _ => rfl⟩ ?_
      have e : txt a = [110, 97, 110] := by
        unfold txt
        rw [if_pos hn]
      rw [e]
      decide
    · exact h1 a ⟨h, fun h4 => absurd h4 hn⟩ rfl
set_option maxHeartbeats 3200000 in
set_option maxRecDepth 100000 in
theorem law (a : Nat) (s : ByteArray) (w : World) (ha : a < 18446744073709551616) (hs : s.size ≤ 140737488351232) (hv : Vars w) :
    Calls Tryd.prog 4 #[.int .u64 a, .string s] w fun e w' => e = .returned (.bool true) ∧ Below w.heap.size w w' := by
  have HV := Aside0.mk hv
  have HS := Aside0.mk hs
  have HA := Aside0.mk ha
  have HTT : Aside0 (s.toList = s.data.toList) := ⟨Lib.toList_data s⟩
  have eRG := andNot_rg ha
  clear hv hs ha
  go_enter Tryd.func4, Tryd.ntmps4
  go_wp2_with fail
  refine (works_calls w HV.out.z).mono ?_
  rintro e w1 ⟨rfl, hB⟩
  have HB1 := Aside0.mk hB
  clear hB
  go_wp2_with fail
  refine (text_calls a HA.out w1 (HV.out.keep HB1.out)).mono ?_
  rintro e w2 ⟨rfl, hB⟩
  have HB2 := Aside0.mk (below_step HB1.out hB)
  clear hB HB1
  have HTZ : Aside0 ((⟨(txt a).toArray⟩ : ByteArray).size ≤ 140737488355328) := ⟨by
    rw [Lib.size_mk]
    have := txt_len a HA.out
    omega⟩
  go_wp2_with fail
  refine (parse_calls ⟨(txt a).toArray⟩ HTZ.out w2 (HV.out.keep HB2.out)).mono ?_
  unfold ParsePost
  rw [show (⟨(txt a).toArray⟩ : ByteArray).data.toList = txt a by simp]
  rintro e w3 ⟨⟨v, er, hA, rfl⟩, hB⟩
  have HB3 := Aside0.mk (below_step HB2.out hB)
  obtain ⟨rfl, hva⟩ := back HA.out hA
  clear hB HB2 HTZ hA
  go_wp2_with fail
  refine (num_calls _ _).mono ?_
  rintro e w4 ⟨rfl, rfl⟩
  rcases hva with rfl | ⟨hne, hn⟩
  · go_wp2_with fail
    refine (parse_calls s (by have := HS.out; omega) w4 (HV.out.keep HB3.out)).mono ?_
    unfold ParsePost
    rintro e w5 ⟨⟨c, er, hA, rfl⟩, hB⟩
    have HB5 := Aside0.mk (below_step HB3.out hB)
    clear hB HB3
    rcases hA with ⟨h1, h2, rfl⟩ | ⟨h1, rfl, rfl⟩
    · have HC := Aside0.mk h1.1
      have HT := Aside0.mk h2
      clear h1 h2
      go_wp2_with fail
      refine (num_calls _ _).mono ?_
      rintro e w6 ⟨rfl, rfl⟩
      go_wp2_with fail
      refine (text_calls c HC.out w6 (HV.out.keep HB5.out)).mono ?_
      rintro e w7 ⟨rfl, hB⟩
      have HB7 := Aside0.mk (below_step HB5.out hB)
      clear hB HB5
      have d7 : (txt c == s.toList) = true := by
        rw [HTT.out, HT.out]
        exact beq_self_eq_true _
      go_wp2_with fail
      go_ret
      exact ⟨rfl, HB7.out⟩
    · clear h1
      go_wp2_with fail
      refine (num_calls _ _).mono ?_
      rintro e w6 ⟨rfl, rfl⟩
      go_wp2_with fail
      refine (num_calls _ _).mono ?_
      rintro e w6 ⟨rfl, rfl⟩
      go_wp2_with fail
      go_ret
      exact ⟨rfl, HB5.out⟩
  · have d1 : ((v : Int) == (a : Int)) = false := beq_eq_false_iff_ne.2 (by omega)
    have d2 : decide ((rg a : Int) ≤ 9218868437227405312) = false := decide_eq_false (by omega)
    have d3 : decide (rg a ≤ 9218868437227405312) = false := decide_eq_false (by omega)
    have d0 : ¬ ((v : Int) = (a : Int)) := by omega
    have d4 : ((v : Int) != (a : Int)) = true := by rw [bne, d1]; rfl
    clear hn
    go_wp2_with fail
    refine (parse_calls s (by have := HS.out; omega) w4 (HV.out.keep HB3.out)).mono ?_
    unfold ParsePost
    rintro e w5 ⟨⟨c, er, hA, rfl⟩, hB⟩
    have HB5 := Aside0.mk (below_step HB3.out hB)
    clear hB HB3
    rcases hA with ⟨h1, h2, rfl⟩ | ⟨h1, rfl, rfl⟩
    · have HC := Aside0.mk h1.1
      have HT := Aside0.mk h2
      clear h1 h2
      go_wp2_with fail
      refine (num_calls _ _).mono ?_
      rintro e w6 ⟨rfl, rfl⟩
      go_wp2_with fail
      refine (text_calls c HC.out w6 (HV.out.keep HB5.out)).mono ?_
      rintro e w7 ⟨rfl, hB⟩
      have HB7 := Aside0.mk (below_step HB5.out hB)
      clear hB HB5
      have d7 : (txt c == s.toList) = true := by
        rw [HTT.out, HT.out]
        exact beq_self_eq_true _
      go_wp2_with fail
      go_ret
      exact ⟨rfl, HB7.out⟩
    · clear h1
      go_wp2_with fail
      refine (num_calls _ _).mono ?_
      rintro e w6 ⟨rfl, rfl⟩
      go_wp2_with fail
      refine (num_calls _ _).mono ?_
      rintro e w6 ⟨rfl, rfl⟩
      go_wp2_with fail
      go_ret
      exact ⟨rfl, HB5.out⟩
/-- In the row's form. -/
theorem back_row (x : Int) (s : ByteArray) (w : World) (wx : (Lit.int .u64 x).wf = true) (ws : s.size ≤ 140737488351232) (hv : Vars w) :
    Calls Tryd.prog 4 #[.int .u64 x, .string s] w fun e w' => e = .returned (.bool true) ∧ Below w.heap.size w w' := by
  obtain ⟨a, rfl, ha⟩ := DWalks.in64 wx
  exact law a s w ha ws hv
end Go.Proofs.YtjaeligjcgjamaaDoor.DLawBack
