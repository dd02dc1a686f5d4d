/- What real.Text answers: the text of a float. -/
import Derived.Lib.AppendIntMem
import Derived.Lib.LaidTab
import Derived.Lib.ItoaLen
import Derived.Test.YtjaeligjcgjamaaDoorDTxt
namespace Go.Proofs.YtjaeligjcgjamaaDoor.DTextW
open Go.RowKit Go.Proofs.YtjaeligjcgjamaaDoor.PRealOrder Go.Proofs.YtjaeligjcgjamaaDoorW.PrintWords Go.Proofs.YtjaeligjcgjamaaDoorW.PrintLast Go.Proofs.YtjaeligjcgjamaaDoorW.PrintMore Go.Proofs.YtjaeligjcgjamaaDoor.Aid Go.Proofs.YtjaeligjcgjamaaDoor.FloatPlain Go.Proofs.YtjaeligjcgjamaaDoor.DRealPure Go.Proofs.YtjaeligjcgjamaaDoor.DRealFl Go.Proofs.YtjaeligjcgjamaaDoor.DRealAr Go.Proofs.YtjaeligjcgjamaaDoor.DRealPick Go.Proofs.YtjaeligjcgjamaaDoor.DHex Go.Proofs.YtjaeligjcgjamaaDoor.DUnhex Go.Proofs.YtjaeligjcgjamaaDoor.DUnhexAny Go.Proofs.YtjaeligjcgjamaaDoor.DWorks Go.Proofs.YtjaeligjcgjamaaDoor.DTxt
set_option linter.unusedVariables false
set_option linter.unusedSimpArgs false
/-- What the listed variables give: the table of zeros, the powers of ten, the two errors. -/
structure Vars (w : World) : Prop where
  z : w.cell? ⟨6, 15, none⟩ = some (.int .u8 4)
  t : Lib.TabIs Tryd.prog w "internal/strconv.uint64pow10" .u64 Lib.pow10Tab
  s : ∃ tp p, w.cell? ⟨3, 0, none⟩ = some (.iface tp p)
  r : ∃ tp p, w.cell? ⟨4, 0, none⟩ = some (.iface tp p)
theorem lt_of_cell {w : World} {b i : Nat} {v : Value} (h : w.cell? ⟨b, i, none⟩ = some v) : b < w.heap.size := by
  rcases Nat.lt_or_ge b w.heap.size with h0 | h0
  · exact h0
  · simp [World.cell?, Array.getElem?_eq_none h0] at h
theorem cell_keep {w w' : World} {b i : Nat} {v : Value} (h : w.cell? ⟨b, i, none⟩ = some v) (hB : Below w.heap.size w w') : w'.cell? ⟨b, i, none⟩ = some v := (hB.cell (p := ⟨b, i, none⟩) (lt_of_cell h)).trans h
theorem tab_keep {P : Program} {w w' : World} {n : String} {k : IntKind} {zs : List Int} (h : Lib.TabIs P w n k zs) (hB : Below w.heap.size w w') : Lib.TabIs P w' n k zs := by
  unfold Lib.TabIs World.var? at h ⊢
  cases hg : P.globalNamed n with
  | none => simp [hg] at h
  | some g =>
    simp only [hg, Option.bind_some] at h ⊢
    have hlt : g < w.heap.size := by
      rcases Nat.lt_or_ge g w.heap.size with h' | h'
      · exact h'
      · simp [Array.getElem?_eq_none h'] at h
    rw [hB.block g hlt]
    exact h
theorem Vars.keep {w w' : World} (h : Vars w) (hB : Below w.heap.size w w') : Vars w' :=
  ⟨cell_keep h.z hB, tab_keep h.t hB, let ⟨a, b, c⟩ := h.s; ⟨a, b, cell_keep c hB⟩, let ⟨a, b, c⟩ := h.r; ⟨a, b, cell_keep c hB⟩⟩
theorem ba_app (l m : List UInt8) : (⟨l.toArray⟩ : ByteArray) ++ ⟨m.toArray⟩ = ⟨(l ++ m).toArray⟩ := by
  apply ByteArray.ext
  rw [ByteArray.data_append]
  simp
theorem digs_h13 (f j : Nat) (hj : j ≤ 12) (h : f / 16 ^ j < 16) : Lib.repeatL [48] (12 - j) ++ (strOfNums (digs f (j + 1))).data.toList = h13 f := by
  have e0 : Lib.repeatL [48] (12 - j) = List.replicate (12 - j) 48 := by
    have := Lib.repeatL_replicate 48 1 (12 - j)
    rw [Nat.mul_one] at this
    exact this
  have e1 : (strOfNums (digs f (j + 1))).data.toList = (List.range (j + 1)).map fun k => UInt8.ofNat (hd (f / 16 ^ (j - k) % 16)) := by
    simp [strOfNums, digs]
  rw [e0, e1]
  refine List.ext_getElem (by rw [h13_length]; simp; omega) fun k h1 h2 => ?_
  rw [h13_get]
  rcases Nat.lt_or_ge k (12 - j) with hk | hk
  · rw [List.getElem_append_left (by simpa using hk), List.getElem_replicate]
    have : f / 16 ^ (12 - k) = 0 := by
      have e2 : 12 - k = j + 1 + (12 - k - (j + 1)) := by omega
      have h3 : f / 16 ^ (j + 1) = 0 := by
        rw [Nat.pow_succ, ← Nat.div_div_eq_div_mul]
        exact Nat.div_eq_of_lt h
      rw [e2, Nat.pow_add, ← Nat.div_div_eq_div_mul, h3]
      exact Nat.zero_div _
    rw [this]
    rfl
  · rw [List.getElem_append_right (by simpa using hk)]
    simp only [List.getElem_map, List.getElem_range, List.length_replicate]
    have e3 : j - (k - (12 - j)) = 12 - k := by omega
    rw [e3]
theorem j_le {f j : Nat} (hf : f < 4503599627370496) (h : j = 0 ∨ 1 ≤ f / 16 ^ j) : j ≤ 12 := by
  rcases h with h | h
  · omega
  · rcases Nat.lt_or_ge 12 j with hj | hj
    · exfalso
      have e : j = 13 + (j - 13) := by omega
      have h3 : f / 16 ^ 13 = 0 := Nat.div_eq_of_lt (by simpa using hf)
      rw [e, Nat.pow_add, ← Nat.div_div_eq_div_mul, h3, Nat.zero_div] at h
      omega
    · exact hj
set_option maxHeartbeats 3200000 in
set_option maxRecDepth 100000 in
theorem text_nan (a : Nat) (w : World) (hn : 9218868437227405312 < rg a) : Calls Tryd.prog 11 #[.int .u64 a] w fun e w' => e = .returned (.string ⟨(txt a).toArray⟩) ∧ Below w.heap.size w w' := by
  have HT : Aside0 (txt a = [110, 97, 110]) := ⟨by unfold txt; rw [if_pos hn]⟩
  go_enter Tryd.func11, Tryd.ntmps11
  go_wp2_with fail
  refine (isnanp_calls a w).mono ?_
  rw [decide_eq_true hn]
  rintro e w1 ⟨rfl, rfl⟩
  clear hn
  go_wp2_with fail
  go_ret
  exact ⟨by rw [HT.out]; rfl, Below.refl _ _⟩
set_option maxHeartbeats 3200000 in
set_option maxRecDepth 100000 in
theorem text_inf_n (a : Nat) (w : World) (HV : Aside0 (Vars w)) (hn : decide (9218868437227405312 < rg a) = false) (b5 : Go.bits .and .u64 (a : Int) 9223372036854775808 = 9223372036854775808) (e1 : Go.bits .and .u64 ((a : Int) / 4503599627370496) 2047 = 2047) (e2 : Go.bits .and .u64 (a : Int) 4503599627370495 = 0) (HT : Aside0 (txt a = [45] ++ [105, 110, 102])) : Calls Tryd.prog 11 #[.int .u64 a] w fun e w' => e = .returned (.string ⟨(txt a).toArray⟩) ∧ Below w.heap.size w w' := by
  go_enter Tryd.func11, Tryd.ntmps11
  go_wp2_with fail
  refine (isnanp_calls a w).mono ?_
  rw [hn]
  rintro e w1 ⟨rfl, rfl⟩
  clear hn
  go_wp2_with fail
  go_ret
  exact ⟨by rw [HT.out]; rfl, Below.refl _ _⟩
set_option maxHeartbeats 3200000 in
set_option maxRecDepth 100000 in
theorem text_zero_n (a : Nat) (w : World) (HV : Aside0 (Vars w)) (hn : decide (9218868437227405312 < rg a) = false) (b5 : Go.bits .and .u64 (a : Int) 9223372036854775808 = 9223372036854775808) (e1 : Go.bits .and .u64 ((a : Int) / 4503599627370496) 2047 = 0) (e2 : Go.bits .and .u64 (a : Int) 4503599627370495 = 0) (HT : Aside0 (txt a = [45] ++ [48])) : Calls Tryd.prog 11 #[.int .u64 a] w fun e w' => e = .returned (.string ⟨(txt a).toArray⟩) ∧ Below w.heap.size w w' := by
  go_enter Tryd.func11, Tryd.ntmps11
  go_wp2_with fail
  refine (isnanp_calls a w).mono ?_
  rw [hn]
  rintro e w1 ⟨rfl, rfl⟩
  clear hn
  go_wp2_with fail
  go_ret
  exact ⟨by rw [HT.out]; rfl, Below.refl _ _⟩
set_option maxHeartbeats 3200000 in
set_option maxRecDepth 100000 in
theorem text_sub_n (a : Nat) (w : World) (HV : Aside0 (Vars w)) (hn : decide (9218868437227405312 < rg a) = false) (f : Nat) (hf : 0 < f ∧ f < 4503599627370496) (b5 : Go.bits .and .u64 (a : Int) 9223372036854775808 = 9223372036854775808) (e1 : Go.bits .and .u64 ((a : Int) / 4503599627370496) 2047 = 0) (e2 : Go.bits .and .u64 (a : Int) 4503599627370495 = (f : Int)) (HT : Aside0 (txt a = [45] ++ body 0 f)) : Calls Tryd.prog 11 #[.int .u64 a] w fun e w' => e = .returned (.string ⟨(txt a).toArray⟩) ∧ Below w.heap.size w w' := by
  go_enter Tryd.func11, Tryd.ntmps11
  go_wp2_with fail
  refine (isnanp_calls a w).mono ?_
  rw [hn]
  rintro e w1 ⟨rfl, rfl⟩
  clear hn
  have d2 : ((f : Int) == 0) = false := beq_eq_false_iff_ne.2 (by omega)
  have HF := Aside0.mk hf
  clear hf
  go_wp2_with fail
  clear b5 e1 e2 d2
  refine (fmt_pub f (by have := HF.out; omega) w1 HV.out.z).mono ?_
  rintro e w2 ⟨j, rfl, hj, g1, g2, hB⟩
  have hj12 := j_le HF.out.2 g2
  have hz13 := digs_h13 f j hj12 g1
  have hsz : (strOfNums (digs f (j + 1))).size = j + 1 := by
    rw [Lib.size_eq]
    simp [strOfNums, digs]
  have HB := Aside0.mk hB
  clear hB g1 g2
  generalize strOfNums (digs f (j + 1)) = S at *
  have HZ := Aside0.mk hz13
  have ej : IntKind.i64.wrap (13 - (S.size : Int)) = ((12 - j : Nat) : Int) := by
    rw [hsz, i64_w, w64 (by omega) (by omega)]
    omega
  have HJ := Aside0.mk hj12
  clear hz13 hsz hj hj12
  go_wp2_with fail
  refine (Tryd.strings_Repeat ⟨#[48]⟩ (12 - j) w2 (by omega) (by show 1 * (12 - j) ≤ _; omega)).mono ?_
  rintro e w3 ⟨rfl, hB3⟩
  have HB3 := Aside0.mk (below_step HB.out hB3)
  have ecat : (⟨(Lib.repeatL (⟨#[48]⟩ : ByteArray).data.toList (12 - j)).toArray⟩ : ByteArray) ++ S = ⟨(h13 f).toArray⟩ := by
    have e : S = ⟨S.data.toList.toArray⟩ := by simp
    rw [e, ba_app, ← HZ.out]
  have hcz := congrArg ByteArray.size ecat
  rw [ByteArray.size_append, Lib.size_mk (h13 f), h13_length] at hcz
  clear hB3 HB ej HZ
  generalize (⟨(Lib.repeatL (⟨#[48]⟩ : ByteArray).data.toList (12 - j)).toArray⟩ : ByteArray) = R at *
  have hc1 : ¬ (9223372036854775807 < R.size + S.size) := by omega
  clear hcz
  go_wp2_with fail
  have hsz13 : (⟨(h13 f).toArray⟩ : ByteArray).size ≤ 9223372036854775807 := by
    rw [Lib.size_mk, h13_length f]
    decide
  refine (Tryd.strings_TrimRight_one ⟨(h13 f).toArray⟩ 48 (by decide) _ hsz13).mono ?_
  clear hsz13
  rintro e w4 ⟨rfl, rfl⟩
  have hTL : (Lib.trimRightB (h13 f) 48).length ≤ 13 := by
    have := trim_le (h13 f) 48
    rw [h13_length] at this
    exact this
  have hTR : (⟨(Lib.trimRightB (⟨(h13 f).toArray⟩ : ByteArray).data.toList 48).toArray⟩ : ByteArray) = ⟨(Lib.trimRightB (h13 f) 48).toArray⟩ := rfl
  rw [hTR]
  have hTZ : (⟨(Lib.trimRightB (h13 f) 48).toArray⟩ : ByteArray).size = (Lib.trimRightB (h13 f) 48).length := Lib.size_mk _
  generalize hTB : (⟨(Lib.trimRightB (h13 f) 48).toArray⟩ : ByteArray) = T at *
  have hc2 : ¬ (9223372036854775807 < 1 + T.size) := by omega
  have hc3 : ¬ (9223372036854775807 < 4 + (1 + T.size)) := by omega
  have hc4 : ¬ (9223372036854775807 < 4 + (1 + T.size) + 1) := by omega
  have HTB := Aside0.mk hTB
  have HTL : Aside0 (T.size ≤ 13) := ⟨by omega⟩
  clear hTR ecat hTZ hTB hTL
  go_wp2_with fail
  refine (Tryd.strconv_Itoa (-1022) (by omega) (by omega) w4 (HV.out.keep HB3.out).t).mono ?_
  rintro e w5 ⟨rfl, k5, o5, hw5⟩
  have HB5 : Aside0 (Below w1.heap.size w1 w5) := ⟨by rw [hw5]; exact below_step HB3.out (Lib.below_grow _ _ (Nat.le_refl _) _ _)⟩
  have hIL := Lib.itoa_length_le (-1022) (by omega) (by omega)
  have hIZ : (⟨(Lib.itoa (-1022)).toArray⟩ : ByteArray).size = (Lib.itoa (-1022)).length := Lib.size_mk _
  generalize hIB : (⟨(Lib.itoa (-1022)).toArray⟩ : ByteArray) = I at *
  have hc5 : ¬ (9223372036854775807 < 4 + (1 + T.size) + 1 + I.size) := by have := HTL.out; omega
  have HIB := Aside0.mk hIB
  clear hw5 HB3 hIL hIZ hIB
  go_wp2_with fail
  go_ret
  refine ⟨?_, HB5.out⟩
  rw [← HIB.out, ← HTB.out]
  congr 2
  rw [HT.out]
  unfold body lead expo frac
  rw [if_pos rfl, if_pos rfl, if_neg (show ¬ f = 0 by have := HF.out; omega)]
  simp [ba_app]
set_option maxHeartbeats 3200000 in
set_option maxRecDepth 100000 in
theorem text_whole_n (a : Nat) (w : World) (HV : Aside0 (Vars w)) (hn : decide (9218868437227405312 < rg a) = false) (E : Nat) (hE : 1 ≤ E ∧ E < 2047) (b5 : Go.bits .and .u64 (a : Int) 9223372036854775808 = 9223372036854775808) (e1 : Go.bits .and .u64 ((a : Int) / 4503599627370496) 2047 = (E : Int)) (e2 : Go.bits .and .u64 (a : Int) 4503599627370495 = 0) (HT : Aside0 (txt a = [45] ++ body E 0)) : Calls Tryd.prog 11 #[.int .u64 a] w fun e w' => e = .returned (.string ⟨(txt a).toArray⟩) ∧ Below w.heap.size w w' := by
  go_enter Tryd.func11, Tryd.ntmps11
  go_wp2_with fail
  refine (isnanp_calls a w).mono ?_
  rw [hn]
  rintro e w1 ⟨rfl, rfl⟩
  clear hn
  have d1 : ((E : Int) == 2047) = false := beq_eq_false_iff_ne.2 (by omega)
  have d3 : ((E : Int) == 0) = false := beq_eq_false_iff_ne.2 (by omega)
  have ec : IntKind.i64.wrap (E : Int) = (E : Int) := (i64_w _).trans (w64 (by omega) (by omega))
  have ec2 : IntKind.i64.wrap ((E : Int) - 1023) = (E : Int) - 1023 := (i64_w _).trans (w64 (by omega) (by omega))
  have HE := Aside0.mk hE
  clear hE
  have HB3 : Aside0 (Below w1.heap.size w1 w1) := ⟨Below.refl _ _⟩
  go_wp2_with fail
  refine (Tryd.strconv_Itoa ((E : Int) - 1023) (by have := HE.out; omega) (by have := HE.out; omega) w1 (HV.out.keep HB3.out).t).mono ?_
  rintro e w5 ⟨rfl, k5, o5, hw5⟩
  have HB5 : Aside0 (Below w1.heap.size w1 w5) := ⟨by rw [hw5]; exact below_step HB3.out (Lib.below_grow _ _ (Nat.le_refl _) _ _)⟩
  have hIL := Lib.itoa_length_le ((E : Int) - 1023) (by have := HE.out; omega) (by have := HE.out; omega)
  have hIZ : (⟨(Lib.itoa ((E : Int) - 1023)).toArray⟩ : ByteArray).size = (Lib.itoa ((E : Int) - 1023)).length := Lib.size_mk _
  generalize hIB : (⟨(Lib.itoa ((E : Int) - 1023)).toArray⟩ : ByteArray) = I at *
  have hc5 : ¬ (9223372036854775807 < 5 + I.size) := by omega
  have HIB := Aside0.mk hIB
  clear hw5 HB3 hIL hIZ hIB
  go_wp2_with fail
  go_ret
  refine ⟨?_, HB5.out⟩
  rw [← HIB.out]
  congr 2
  rw [HT.out]
  unfold body lead expo frac
  rw [if_neg (show ¬ E = 0 by have := HE.out; omega), if_neg (show ¬ E = 0 by have := HE.out; omega), if_pos rfl]
  simp [ba_app]
set_option maxHeartbeats 3200000 in
set_option maxRecDepth 100000 in
theorem text_norm_n (a : Nat) (w : World) (HV : Aside0 (Vars w)) (hn : decide (9218868437227405312 < rg a) = false) (E : Nat) (hE : 1 ≤ E ∧ E < 2047) (f : Nat) (hf : 0 < f ∧ f < 4503599627370496) (b5 : Go.bits .and .u64 (a : Int) 9223372036854775808 = 9223372036854775808) (e1 : Go.bits .and .u64 ((a : Int) / 4503599627370496) 2047 = (E : Int)) (e2 : Go.bits .and .u64 (a : Int) 4503599627370495 = (f : Int)) (HT : Aside0 (txt a = [45] ++ body E f)) : Calls Tryd.prog 11 #[.int .u64 a] w fun e w' => e = .returned (.string ⟨(txt a).toArray⟩) ∧ Below w.heap.size w w' := by
  go_enter Tryd.func11, Tryd.ntmps11
  go_wp2_with fail
  refine (isnanp_calls a w).mono ?_
  rw [hn]
  rintro e w1 ⟨rfl, rfl⟩
  clear hn
  have d1 : ((E : Int) == 2047) = false := beq_eq_false_iff_ne.2 (by omega)
  have d3 : ((E : Int) == 0) = false := beq_eq_false_iff_ne.2 (by omega)
  have ec : IntKind.i64.wrap (E : Int) = (E : Int) := (i64_w _).trans (w64 (by omega) (by omega))
  have ec2 : IntKind.i64.wrap ((E : Int) - 1023) = (E : Int) - 1023 := (i64_w _).trans (w64 (by omega) (by omega))
  have HE := Aside0.mk hE
  clear hE
  have d2 : ((f : Int) == 0) = false := beq_eq_false_iff_ne.2 (by omega)
  have HF := Aside0.mk hf
  clear hf
  go_wp2_with fail
  clear b5 e1 e2 d2 d1 d3 ec
  refine (fmt_pub f (by have := HF.out; omega) w1 HV.out.z).mono ?_
  rintro e w2 ⟨j, rfl, hj, g1, g2, hB⟩
  have hj12 := j_le HF.out.2 g2
  have hz13 := digs_h13 f j hj12 g1
  have hsz : (strOfNums (digs f (j + 1))).size = j + 1 := by
    rw [Lib.size_eq]
    simp [strOfNums, digs]
  have HB := Aside0.mk hB
  clear hB g1 g2
  generalize strOfNums (digs f (j + 1)) = S at *
  have HZ := Aside0.mk hz13
  have ej : IntKind.i64.wrap (13 - (S.size : Int)) = ((12 - j : Nat) : Int) := by
    rw [hsz, i64_w, w64 (by omega) (by omega)]
    omega
  have HJ := Aside0.mk hj12
  clear hz13 hsz hj hj12
  go_wp2_with fail
  refine (Tryd.strings_Repeat ⟨#[48]⟩ (12 - j) w2 (by omega) (by show 1 * (12 - j) ≤ _; omega)).mono ?_
  rintro e w3 ⟨rfl, hB3⟩
  have HB3 := Aside0.mk (below_step HB.out hB3)
  have ecat : (⟨(Lib.repeatL (⟨#[48]⟩ : ByteArray).data.toList (12 - j)).toArray⟩ : ByteArray) ++ S = ⟨(h13 f).toArray⟩ := by
    have e : S = ⟨S.data.toList.toArray⟩ := by simp
    rw [e, ba_app, ← HZ.out]
  have hcz := congrArg ByteArray.size ecat
  rw [ByteArray.size_append, Lib.size_mk (h13 f), h13_length] at hcz
  clear hB3 HB ej HZ
  generalize (⟨(Lib.repeatL (⟨#[48]⟩ : ByteArray).data.toList (12 - j)).toArray⟩ : ByteArray) = R at *
  have hc1 : ¬ (9223372036854775807 < R.size + S.size) := by omega
  clear hcz
  go_wp2_with fail
  have hsz13 : (⟨(h13 f).toArray⟩ : ByteArray).size ≤ 9223372036854775807 := by
    rw [Lib.size_mk, h13_length f]
    decide
  refine (Tryd.strings_TrimRight_one ⟨(h13 f).toArray⟩ 48 (by decide) _ hsz13).mono ?_
  clear hsz13
  rintro e w4 ⟨rfl, rfl⟩
  have hTL : (Lib.trimRightB (h13 f) 48).length ≤ 13 := by
    have := trim_le (h13 f) 48
    rw [h13_length] at this
    exact this
  have hTR : (⟨(Lib.trimRightB (⟨(h13 f).toArray⟩ : ByteArray).data.toList 48).toArray⟩ : ByteArray) = ⟨(Lib.trimRightB (h13 f) 48).toArray⟩ := rfl
  rw [hTR]
  have hTZ : (⟨(Lib.trimRightB (h13 f) 48).toArray⟩ : ByteArray).size = (Lib.trimRightB (h13 f) 48).length := Lib.size_mk _
  generalize hTB : (⟨(Lib.trimRightB (h13 f) 48).toArray⟩ : ByteArray) = T at *
  have hc2 : ¬ (9223372036854775807 < 1 + T.size) := by omega
  have hc3 : ¬ (9223372036854775807 < 4 + (1 + T.size)) := by omega
  have hc4 : ¬ (9223372036854775807 < 4 + (1 + T.size) + 1) := by omega
  have HTB := Aside0.mk hTB
  have HTL : Aside0 (T.size ≤ 13) := ⟨by omega⟩
  clear hTR ecat hTZ hTB hTL
  go_wp2_with fail
  refine (Tryd.strconv_Itoa ((E : Int) - 1023) (by have := HE.out; omega) (by have := HE.out; omega) w4 (HV.out.keep HB3.out).t).mono ?_
  rintro e w5 ⟨rfl, k5, o5, hw5⟩
  have HB5 : Aside0 (Below w1.heap.size w1 w5) := ⟨by rw [hw5]; exact below_step HB3.out (Lib.below_grow _ _ (Nat.le_refl _) _ _)⟩
  have hIL := Lib.itoa_length_le ((E : Int) - 1023) (by have := HE.out; omega) (by have := HE.out; omega)
  have hIZ : (⟨(Lib.itoa ((E : Int) - 1023)).toArray⟩ : ByteArray).size = (Lib.itoa ((E : Int) - 1023)).length := Lib.size_mk _
  generalize hIB : (⟨(Lib.itoa ((E : Int) - 1023)).toArray⟩ : ByteArray) = I at *
  have hc5 : ¬ (9223372036854775807 < 4 + (1 + T.size) + 1 + I.size) := by have := HTL.out; omega
  have HIB := Aside0.mk hIB
  clear hw5 HB3 hIL hIZ hIB
  go_wp2_with fail
  go_ret
  refine ⟨?_, HB5.out⟩
  rw [← HIB.out, ← HTB.out]
  congr 2
  rw [HT.out]
  unfold body lead expo frac
  rw [if_neg (show ¬ E = 0 by have := HE.out; omega), if_neg (show ¬ E = 0 by have := HE.out; omega), if_neg (show ¬ f = 0 by have := HF.out; omega)]
  simp [ba_app]
set_option maxHeartbeats 3200000 in
set_option maxRecDepth 100000 in
theorem text_inf_p (a : Nat) (w : World) (HV : Aside0 (Vars w)) (hn : decide (9218868437227405312 < rg a) = false) (b5 : Go.bits .and .u64 (a : Int) 9223372036854775808 = 0) (e1 : Go.bits .and .u64 ((a : Int) / 4503599627370496) 2047 = 2047) (e2 : Go.bits .and .u64 (a : Int) 4503599627370495 = 0) (HT : Aside0 (txt a = [] ++ [105, 110, 102])) : Calls Tryd.prog 11 #[.int .u64 a] w fun e w' => e = .returned (.string ⟨(txt a).toArray⟩) ∧ Below w.heap.size w w' := by
  go_enter Tryd.func11, Tryd.ntmps11
  go_wp2_with fail
  refine (isnanp_calls a w).mono ?_
  rw [hn]
  rintro e w1 ⟨rfl, rfl⟩
  clear hn
  go_wp2_with fail
  go_ret
  exact ⟨by rw [HT.out]; rfl, Below.refl _ _⟩
set_option maxHeartbeats 3200000 in
set_option maxRecDepth 100000 in
theorem text_zero_p (a : Nat) (w : World) (HV : Aside0 (Vars w)) (hn : decide (9218868437227405312 < rg a) = false) (b5 : Go.bits .and .u64 (a : Int) 9223372036854775808 = 0) (e1 : Go.bits .and .u64 ((a : Int) / 4503599627370496) 2047 = 0) (e2 : Go.bits .and .u64 (a : Int) 4503599627370495 = 0) (HT : Aside0 (txt a = [] ++ [48])) : Calls Tryd.prog 11 #[.int .u64 a] w fun e w' => e = .returned (.string ⟨(txt a).toArray⟩) ∧ Below w.heap.size w w' := by
  go_enter Tryd.func11, Tryd.ntmps11
  go_wp2_with fail
  refine (isnanp_calls a w).mono ?_
  rw [hn]
  rintro e w1 ⟨rfl, rfl⟩
  clear hn
  go_wp2_with fail
  go_ret
  exact ⟨by rw [HT.out]; rfl, Below.refl _ _⟩
set_option maxHeartbeats 3200000 in
set_option maxRecDepth 100000 in
theorem text_sub_p (a : Nat) (w : World) (HV : Aside0 (Vars w)) (hn : decide (9218868437227405312 < rg a) = false) (f : Nat) (hf : 0 < f ∧ f < 4503599627370496) (b5 : Go.bits .and .u64 (a : Int) 9223372036854775808 = 0) (e1 : Go.bits .and .u64 ((a : Int) / 4503599627370496) 2047 = 0) (e2 : Go.bits .and .u64 (a : Int) 4503599627370495 = (f : Int)) (HT : Aside0 (txt a = [] ++ body 0 f)) : Calls Tryd.prog 11 #[.int .u64 a] w fun e w' => e = .returned (.string ⟨(txt a).toArray⟩) ∧ Below w.heap.size w w' := by
  go_enter Tryd.func11, Tryd.ntmps11
  go_wp2_with fail
  refine (isnanp_calls a w).mono ?_
  rw [hn]
  rintro e w1 ⟨rfl, rfl⟩
  clear hn
  have d2 : ((f : Int) == 0) = false := beq_eq_false_iff_ne.2 (by omega)
  have HF := Aside0.mk hf
  clear hf
  go_wp2_with fail
  clear b5 e1 e2 d2
  refine (fmt_pub f (by have := HF.out; omega) w1 HV.out.z).mono ?_
  rintro e w2 ⟨j, rfl, hj, g1, g2, hB⟩
  have hj12 := j_le HF.out.2 g2
  have hz13 := digs_h13 f j hj12 g1
  have hsz : (strOfNums (digs f (j + 1))).size = j + 1 := by
    rw [Lib.size_eq]
    simp [strOfNums, digs]
  have HB := Aside0.mk hB
  clear hB g1 g2
  generalize strOfNums (digs f (j + 1)) = S at *
  have HZ := Aside0.mk hz13
  have ej : IntKind.i64.wrap (13 - (S.size : Int)) = ((12 - j : Nat) : Int) := by
    rw [hsz, i64_w, w64 (by omega) (by omega)]
    omega
  have HJ := Aside0.mk hj12
  clear hz13 hsz hj hj12
  go_wp2_with fail
  refine (Tryd.strings_Repeat ⟨#[48]⟩ (12 - j) w2 (by omega) (by show 1 * (12 - j) ≤ _; omega)).mono ?_
  rintro e w3 ⟨rfl, hB3⟩
  have HB3 := Aside0.mk (below_step HB.out hB3)
  have ecat : (⟨(Lib.repeatL (⟨#[48]⟩ : ByteArray).data.toList (12 - j)).toArray⟩ : ByteArray) ++ S = ⟨(h13 f).toArray⟩ := by
    have e : S = ⟨S.data.toList.toArray⟩ := by simp
    rw [e, ba_app, ← HZ.out]
  have hcz := congrArg ByteArray.size ecat
  rw [ByteArray.size_append, Lib.size_mk (h13 f), h13_length] at hcz
  clear hB3 HB ej HZ
  generalize (⟨(Lib.repeatL (⟨#[48]⟩ : ByteArray).data.toList (12 - j)).toArray⟩ : ByteArray) = R at *
  have hc1 : ¬ (9223372036854775807 < R.size + S.size) := by omega
  clear hcz
  go_wp2_with fail
  have hsz13 : (⟨(h13 f).toArray⟩ : ByteArray).size ≤ 9223372036854775807 := by
    rw [Lib.size_mk, h13_length f]
    decide
  refine (Tryd.strings_TrimRight_one ⟨(h13 f).toArray⟩ 48 (by decide) _ hsz13).mono ?_
  clear hsz13
  rintro e w4 ⟨rfl, rfl⟩
  have hTL : (Lib.trimRightB (h13 f) 48).length ≤ 13 := by
    have := trim_le (h13 f) 48
    rw [h13_length] at this
    exact this
  have hTR : (⟨(Lib.trimRightB (⟨(h13 f).toArray⟩ : ByteArray).data.toList 48).toArray⟩ : ByteArray) = ⟨(Lib.trimRightB (h13 f) 48).toArray⟩ := rfl
  rw [hTR]
  have hTZ : (⟨(Lib.trimRightB (h13 f) 48).toArray⟩ : ByteArray).size = (Lib.trimRightB (h13 f) 48).length := Lib.size_mk _
  generalize hTB : (⟨(Lib.trimRightB (h13 f) 48).toArray⟩ : ByteArray) = T at *
  have hc2 : ¬ (9223372036854775807 < 1 + T.size) := by omega
  have hc3 : ¬ (9223372036854775807 < 3 + (1 + T.size)) := by omega
  have hc4 : ¬ (9223372036854775807 < 3 + (1 + T.size) + 1) := by omega
  have HTB := Aside0.mk hTB
  have HTL : Aside0 (T.size ≤ 13) := ⟨by omega⟩
  clear hTR ecat hTZ hTB hTL
  go_wp2_with fail
  refine (Tryd.strconv_Itoa (-1022) (by omega) (by omega) w4 (HV.out.keep HB3.out).t).mono ?_
  rintro e w5 ⟨rfl, k5, o5, hw5⟩
  have HB5 : Aside0 (Below w1.heap.size w1 w5) := ⟨by rw [hw5]; exact below_step HB3.out (Lib.below_grow _ _ (Nat.le_refl _) _ _)⟩
  have hIL := Lib.itoa_length_le (-1022) (by omega) (by omega)
  have hIZ : (⟨(Lib.itoa (-1022)).toArray⟩ : ByteArray).size = (Lib.itoa (-1022)).length := Lib.size_mk _
  generalize hIB : (⟨(Lib.itoa (-1022)).toArray⟩ : ByteArray) = I at *
  have hc5 : ¬ (9223372036854775807 < 3 + (1 + T.size) + 1 + I.size) := by have := HTL.out; omega
  have HIB := Aside0.mk hIB
  clear hw5 HB3 hIL hIZ hIB
  go_wp2_with fail
  go_ret
  refine ⟨?_, HB5.out⟩
  rw [← HIB.out, ← HTB.out]
  congr 2
  rw [HT.out]
  unfold body lead expo frac
  rw [if_pos rfl, if_pos rfl, if_neg (show ¬ f = 0 by have := HF.out; omega)]
  simp [ba_app]
set_option maxHeartbeats 3200000 in
set_option maxRecDepth 100000 in
theorem text_whole_p (a : Nat) (w : World) (HV : Aside0 (Vars w)) (hn : decide (9218868437227405312 < rg a) = false) (E : Nat) (hE : 1 ≤ E ∧ E < 2047) (b5 : Go.bits .and .u64 (a : Int) 9223372036854775808 = 0) (e1 : Go.bits .and .u64 ((a : Int) / 4503599627370496) 2047 = (E : Int)) (e2 : Go.bits .and .u64 (a : Int) 4503599627370495 = 0) (HT : Aside0 (txt a = [] ++ body E 0)) : Calls Tryd.prog 11 #[.int .u64 a] w fun e w' => e = .returned (.string ⟨(txt a).toArray⟩) ∧ Below w.heap.size w w' := by
  go_enter Tryd.func11, Tryd.ntmps11
  go_wp2_with fail
  refine (isnanp_calls a w).mono ?_
  rw [hn]
  rintro e w1 ⟨rfl, rfl⟩
  clear hn
  have d1 : ((E : Int) == 2047) = false := beq_eq_false_iff_ne.2 (by omega)
  have d3 : ((E : Int) == 0) = false := beq_eq_false_iff_ne.2 (by omega)
  have ec : IntKind.i64.wrap (E : Int) = (E : Int) := (i64_w _).trans (w64 (by omega) (by omega))
  have ec2 : IntKind.i64.wrap ((E : Int) - 1023) = (E : Int) - 1023 := (i64_w _).trans (w64 (by omega) (by omega))
  have HE := Aside0.mk hE
  clear hE
  have HB3 : Aside0 (Below w1.heap.size w1 w1) := ⟨Below.refl _ _⟩
  go_wp2_with fail
  refine (Tryd.strconv_Itoa ((E : Int) - 1023) (by have := HE.out; omega) (by have := HE.out; omega) w1 (HV.out.keep HB3.out).t).mono ?_
  rintro e w5 ⟨rfl, k5, o5, hw5⟩
  have HB5 : Aside0 (Below w1.heap.size w1 w5) := ⟨by rw [hw5]; exact below_step HB3.out (Lib.below_grow _ _ (Nat.le_refl _) _ _)⟩
  have hIL := Lib.itoa_length_le ((E : Int) - 1023) (by have := HE.out; omega) (by have := HE.out; omega)
  have hIZ : (⟨(Lib.itoa ((E : Int) - 1023)).toArray⟩ : ByteArray).size = (Lib.itoa ((E : Int) - 1023)).length := Lib.size_mk _
  generalize hIB : (⟨(Lib.itoa ((E : Int) - 1023)).toArray⟩ : ByteArray) = I at *
  have hc5 : ¬ (9223372036854775807 < 4 + I.size) := by omega
  have HIB := Aside0.mk hIB
  clear hw5 HB3 hIL hIZ hIB
  go_wp2_with fail
  go_ret
  refine ⟨?_, HB5.out⟩
  rw [← HIB.out]
  congr 2
  rw [HT.out]
  unfold body lead expo frac
  rw [if_neg (show ¬ E = 0 by have := HE.out; omega), if_neg (show ¬ E = 0 by have := HE.out; omega), if_pos rfl]
  simp [ba_app]
set_option maxHeartbeats 3200000 in
set_option maxRecDepth 100000 in
theorem text_norm_p (a : Nat) (w : World) (HV : Aside0 (Vars w)) (hn : decide (9218868437227405312 < rg a) = false) (E : Nat) (hE : 1 ≤ E ∧ E < 2047) (f : Nat) (hf : 0 < f ∧ f < 4503599627370496) (b5 : Go.bits .and .u64 (a : Int) 9223372036854775808 = 0) (e1 : Go.bits .and .u64 ((a : Int) / 4503599627370496) 2047 = (E : Int)) (e2 : Go.bits .and .u64 (a : Int) 4503599627370495 = (f : Int)) (HT : Aside0 (txt a = [] ++ body E f)) : Calls Tryd.prog 11 #[.int .u64 a] w fun e w' => e = .returned (.string ⟨(txt a).toArray⟩) ∧ Below w.heap.size w w' := by
  go_enter Tryd.func11, Tryd.ntmps11
  go_wp2_with fail
  refine (isnanp_calls a w).mono ?_
  rw [hn]
  rintro e w1 ⟨rfl, rfl⟩
  clear hn
  have d1 : ((E : Int) == 2047) = false := beq_eq_false_iff_ne.2 (by omega)
  have d3 : ((E : Int) == 0) = false := beq_eq_false_iff_ne.2 (by omega)
  have ec : IntKind.i64.wrap (E : Int) = (E : Int) := (i64_w _).trans (w64 (by omega) (by omega))
  have ec2 : IntKind.i64.wrap ((E : Int) - 1023) = (E : Int) - 1023 := (i64_w _).trans (w64 (by omega) (by omega))
  have HE := Aside0.mk hE
  clear hE
  have d2 : ((f : Int) == 0) = false := beq_eq_false_iff_ne.2 (by omega)
  have HF := Aside0.mk hf
  clear hf
  go_wp2_with fail
  clear b5 e1 e2 d2 d1 d3 ec
  refine (fmt_pub f (by have := HF.out; omega) w1 HV.out.z).mono ?_
  rintro e w2 ⟨j, rfl, hj, g1, g2, hB⟩
  have hj12 := j_le HF.out.2 g2
  have hz13 := digs_h13 f j hj12 g1
  have hsz : (strOfNums (digs f (j + 1))).size = j + 1 := by
    rw [Lib.size_eq]
    simp [strOfNums, digs]
  have HB := Aside0.mk hB
  clear hB g1 g2
  generalize strOfNums (digs f (j + 1)) = S at *
  have HZ := Aside0.mk hz13
  have ej : IntKind.i64.wrap (13 - (S.size : Int)) = ((12 - j : Nat) : Int) := by
    rw [hsz, i64_w, w64 (by omega) (by omega)]
    omega
  have HJ := Aside0.mk hj12
  clear hz13 hsz hj hj12
  go_wp2_with fail
  refine (Tryd.strings_Repeat ⟨#[48]⟩ (12 - j) w2 (by omega) (by show 1 * (12 - j) ≤ _; omega)).mono ?_
  rintro e w3 ⟨rfl, hB3⟩
  have HB3 := Aside0.mk (below_step HB.out hB3)
  have ecat : (⟨(Lib.repeatL (⟨#[48]⟩ : ByteArray).data.toList (12 - j)).toArray⟩ : ByteArray) ++ S = ⟨(h13 f).toArray⟩ := by
    have e : S = ⟨S.data.toList.toArray⟩ := by simp
    rw [e, ba_app, ← HZ.out]
  have hcz := congrArg ByteArray.size ecat
  rw [ByteArray.size_append, Lib.size_mk (h13 f), h13_length] at hcz
  clear hB3 HB ej HZ
  generalize (⟨(Lib.repeatL (⟨#[48]⟩ : ByteArray).data.toList (12 - j)).toArray⟩ : ByteArray) = R at *
  have hc1 : ¬ (9223372036854775807 < R.size + S.size) := by omega
  clear hcz
  go_wp2_with fail
  have hsz13 : (⟨(h13 f).toArray⟩ : ByteArray).size ≤ 9223372036854775807 := by
    rw [Lib.size_mk, h13_length f]
    decide
  refine (Tryd.strings_TrimRight_one ⟨(h13 f).toArray⟩ 48 (by decide) _ hsz13).mono ?_
  clear hsz13
  rintro e w4 ⟨rfl, rfl⟩
  have hTL : (Lib.trimRightB (h13 f) 48).length ≤ 13 := by
    have := trim_le (h13 f) 48
    rw [h13_length] at this
    exact this
  have hTR : (⟨(Lib.trimRightB (⟨(h13 f).toArray⟩ : ByteArray).data.toList 48).toArray⟩ : ByteArray) = ⟨(Lib.trimRightB (h13 f) 48).toArray⟩ := rfl
  rw [hTR]
  have hTZ : (⟨(Lib.trimRightB (h13 f) 48).toArray⟩ : ByteArray).size = (Lib.trimRightB (h13 f) 48).length := Lib.size_mk _
  generalize hTB : (⟨(Lib.trimRightB (h13 f) 48).toArray⟩ : ByteArray) = T at *
  have hc2 : ¬ (9223372036854775807 < 1 + T.size) := by omega
  have hc3 : ¬ (9223372036854775807 < 3 + (1 + T.size)) := by omega
  have hc4 : ¬ (9223372036854775807 < 3 + (1 + T.size) + 1) := by omega
  have HTB := Aside0.mk hTB
  have HTL : Aside0 (T.size ≤ 13) := ⟨by omega⟩
  clear hTR ecat hTZ hTB hTL
  go_wp2_with fail
  refine (Tryd.strconv_Itoa ((E : Int) - 1023) (by have := HE.out; omega) (by have := HE.out; omega) w4 (HV.out.keep HB3.out).t).mono ?_
  rintro e w5 ⟨rfl, k5, o5, hw5⟩
  have HB5 : Aside0 (Below w1.heap.size w1 w5) := ⟨by rw [hw5]; exact below_step HB3.out (Lib.below_grow _ _ (Nat.le_refl _) _ _)⟩
  have hIL := Lib.itoa_length_le ((E : Int) - 1023) (by have := HE.out; omega) (by have := HE.out; omega)
  have hIZ : (⟨(Lib.itoa ((E : Int) - 1023)).toArray⟩ : ByteArray).size = (Lib.itoa ((E : Int) - 1023)).length := Lib.size_mk _
  generalize hIB : (⟨(Lib.itoa ((E : Int) - 1023)).toArray⟩ : ByteArray) = I at *
  have hc5 : ¬ (9223372036854775807 < 3 + (1 + T.size) + 1 + I.size) := by have := HTL.out; omega
  have HIB := Aside0.mk hIB
  clear hw5 HB3 hIL hIZ hIB
  go_wp2_with fail
  go_ret
  refine ⟨?_, HB5.out⟩
  rw [← HIB.out, ← HTB.out]
  congr 2
  rw [HT.out]
  unfold body lead expo frac
  rw [if_neg (show ¬ E = 0 by have := HE.out; omega), if_neg (show ¬ E = 0 by have := HE.out; omega), if_neg (show ¬ f = 0 by have := HF.out; omega)]
  simp [ba_app]
theorem text_calls (a : Nat) (h : a < 18446744073709551616) (w : World) (hv : Vars w) : Calls Tryd.prog 11 #[.int .u64 a] w fun e w' => e = .returned (.string ⟨(txt a).toArray⟩) ∧ Below w.heap.size w w' := by
  have HV := Aside0.mk hv
  by_cases hn : 9218868437227405312 < rg a
  · exact text_nan a w hn
  · have e1 := and_low (a := a / 4503599627370496) (by omega) 11 (by omega)
    have e2 := and_low h 52 (by omega)
    have e3 := and_pow h 63 (by omega)
    have e11 : ((2 ^ 11 - 1 : Nat) : Int) = 2047 := by decide
    have e21 : ((2 ^ 52 - 1 : Nat) : Int) = 4503599627370495 := by decide
    have e31 : ((2 ^ 63 : Nat) : Int) = 9223372036854775808 := by decide
    have e0 : (a : Int) / 4503599627370496 = ((a / 4503599627370496 : Nat) : Int) := by omega
    rw [e11, ← e0] at e1
    rw [e21] at e2
    rw [e31] at e3
    have q11 : (2 : Nat) ^ 11 = 2048 := by decide
    have q52 : (2 : Nat) ^ 52 = 4503599627370496 := by decide
    have q63 : (2 : Nat) ^ 63 = 9223372036854775808 := by decide
    rw [q11] at e1
    rw [q52] at e2
    rw [q63] at e3
    obtain ⟨E, hE⟩ : ∃ E, a / 4503599627370496 % 2048 = E := ⟨_, rfl⟩
    obtain ⟨f, hf⟩ : ∃ f, a % 4503599627370496 = f := ⟨_, rfl⟩
    rw [hE] at e1
    rw [hf] at e2
    have hr : rg a = E * 4503599627370496 + f := by
      unfold rg
      omega
    have hq : E = 2047 → f = 0 := fun h2 => by
      rw [hr] at hn
      omega
    have hd : decide (9218868437227405312 < rg a) = false := decide_eq_false hn
    have hdE : (E * 4503599627370496 + f) / 4503599627370496 = E := by omega
    have hdf : (E * 4503599627370496 + f) % 4503599627370496 = f := by omega
    have ht : txt a = (if 9223372036854775808 ≤ a then [45] else []) ++ DTxt.mag (E * 4503599627370496 + f) := by
      unfold txt
      rw [if_neg hn, hr]
    have hb : E ≠ 2047 → ¬ (E = 0 ∧ f = 0) → DTxt.mag (E * 4503599627370496 + f) = body E f := fun h1 h2 => by
      unfold DTxt.mag
      rw [if_neg (by omega), if_neg (by omega), hdE, hdf]
    by_cases hs : 9223372036854775808 ≤ a
    · rw [if_pos hs] at ht
      have b5 : Go.bits .and .u64 (a : Int) 9223372036854775808 = 9223372036854775808 := by
        rw [e3]
        omega
      by_cases hi : E = 2047
      · obtain rfl := hq hi
        subst hi
        exact text_inf_n a w HV hd b5 e1 e2 ⟨ht⟩
      · by_cases hz : E = 0
        · subst hz
          by_cases h0 : f = 0
          · subst h0
            exact text_zero_n a w HV hd b5 e1 e2 ⟨ht⟩
          · rw [hb hi (fun h => h0 h.2)] at ht
            exact text_sub_n a w HV hd f (by omega) b5 e1 e2 ⟨ht⟩
        · rw [hb hi (fun h => hz h.1)] at ht
          by_cases h0 : f = 0
          · subst h0
            exact text_whole_n a w HV hd E (by omega) b5 e1 e2 ⟨ht⟩
          · exact text_norm_n a w HV hd E (by omega) f (by omega) b5 e1 e2 ⟨ht⟩
    · rw [if_neg hs] at ht
      have b5 : Go.bits .and .u64 (a : Int) 9223372036854775808 = 0 := by
        rw [e3]
        omega
      by_cases hi : E = 2047
      · obtain rfl := hq hi
        subst hi
        exact text_inf_p a w HV hd b5 e1 e2 ⟨ht⟩
      · by_cases hz : E = 0
        · subst hz
          by_cases h0 : f = 0
          · subst h0
            exact text_zero_p a w HV hd b5 e1 e2 ⟨ht⟩
          · rw [hb hi (fun h => h0 h.2)] at ht
            exact text_sub_p a w HV hd f (by omega) b5 e1 e2 ⟨ht⟩
        · rw [hb hi (fun h => hz h.1)] at ht
          by_cases h0 : f = 0
          · subst h0
            exact text_whole_p a w HV hd E (by omega) b5 e1 e2 ⟨ht⟩
          · exact text_norm_p a w HV hd E (by omega) f (by omega) b5 e1 e2 ⟨ht⟩
end Go.Proofs.YtjaeligjcgjamaaDoor.DTextW
