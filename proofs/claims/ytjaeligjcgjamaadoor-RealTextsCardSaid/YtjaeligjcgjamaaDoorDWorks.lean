/- The chapter's examples. -/
import Derived.Test.YtjaeligjcgjamaaDoorDUnhex
import Derived.Test.YtjaeligjcgjamaaDoorDLawAriths
import Derived.Test.YtjaeligjcgjamaaDoorDLawCompares
namespace Go.Proofs.YtjaeligjcgjamaaDoor.DWorks
open Go.RowKit Go.Proofs.YtjaeligjcgjamaaDoor.PRealOrder Go.Proofs.YtjaeligjcgjamaaDoorW.PrintWords Go.Proofs.YtjaeligjcgjamaaDoorW.PrintLast Go.Proofs.YtjaeligjcgjamaaDoorW.PrintMore Go.Proofs.YtjaeligjcgjamaaDoor.Aid Go.Proofs.YtjaeligjcgjamaaDoor.FloatPlain Go.Proofs.YtjaeligjcgjamaaDoor.DRealPure Go.Proofs.YtjaeligjcgjamaaDoor.DRealFl Go.Proofs.YtjaeligjcgjamaaDoor.DRealAr Go.Proofs.YtjaeligjcgjamaaDoor.DRealPick Go.Proofs.YtjaeligjcgjamaaDoor.DLawAriths Go.Proofs.YtjaeligjcgjamaaDoor.DLawCompares Go.Proofs.YtjaeligjcgjamaaDoor.DHex Go.Proofs.YtjaeligjcgjamaaDoor.DUnhex
set_option linter.unusedVariables false
set_option linter.unusedSimpArgs false
/-- What strings.Cut at a separator of one byte comes to. -/
def cutL (l : List UInt8) (c : UInt8) : List UInt8 × List UInt8 × Bool := if 0 ≤ Lib.indexByte l c then (l.take (Lib.indexByte l c).toNat, l.drop ((Lib.indexByte l c).toNat + 1), true) else (l, [], false)
theorem ba_eq {s : ByteArray} {l : List UInt8} (h : s.data.toList = l) : (⟨l.toArray⟩ : ByteArray) = s := by
  rw [← h]
theorem ex_take (s : ByteArray) (i : Nat) : (⟨(s.data.toList.take i).toArray⟩ : ByteArray) = s.extract 0 i := ba_eq (by rw [Lib.extract_data]; rfl)
theorem ex_drop (s : ByteArray) (i : Nat) : (⟨(s.data.toList.drop i).toArray⟩ : ByteArray) = s.extract i s.size := ba_eq (Lib.extract_to_end s i)
set_option maxHeartbeats 1600000 in
set_option maxRecDepth 100000 in
theorem cut_inner (s : ByteArray) (c : UInt8) (hb : s.size ≤ 140737488355328) (w : World) : Calls Tryd.prog 55 #[.string s, .string ⟨#[c]⟩] w fun e w' => e = .returned (.tuple #[.string ⟨(cutL s.data.toList c).1.toArray⟩, .string ⟨(cutL s.data.toList c).2.1.toArray⟩, .bool (cutL s.data.toList c).2.2]) ∧ ∃ n, w' = w.drewN n := by
  have HR := Aside0.mk (Lib.index_room s.data.toList [c])
  go_enter Tryd.func55, Tryd.ntmps55
  go_wp2_with fail
  refine (Tryd.stringslite_Index_one s c w).mono ?_
  rintro e w1 ⟨rfl, rfl⟩
  have hs := Lib.size_eq s
  by_cases h : 0 ≤ Lib.indexByte s.data.toList c
  · have hr := HR.out (by rw [Lib.index_one]; exact h)
    rw [Lib.index_one] at hr
    have HCU : Aside0 (cutL s.data.toList c = (s.data.toList.take (Lib.indexByte s.data.toList c).toNat, s.data.toList.drop ((Lib.indexByte s.data.toList c).toNat + 1), true)) := ⟨if_pos h⟩
    obtain ⟨i, hi⟩ : ∃ i : Nat, Lib.indexByte s.data.toList c = (i : Int) := ⟨(Lib.indexByte s.data.toList c).toNat, by omega⟩
    rw [hi] at HCU hr ⊢
    have hlt : i + 1 ≤ s.size := by
      simp at hr
      omega
    have d1 : decide ((0 : Int) ≤ (i : Int)) = true := decide_eq_true (by omega)
    have e1 : IntKind.i64.wrap ((i : Int) + 1) = (i : Int) + 1 := (i64_w _).trans (w64 (by omega) (by omega))
    have HS := Aside0.mk hs
    clear h hi hr hs HR
    go_wp2_with fail
    go_quiet (fail)
    go_wp2_with fail
    go_ret3
    refine ⟨?_, _, rfl⟩
    rw [HCU.out]
    simp only [Int.toNat_natCast]
    rw [ex_take, ex_drop]
    rfl
  · have HCU : Aside0 (cutL s.data.toList c = (s.data.toList, [], false)) := ⟨if_neg h⟩
    have d1 : decide ((0 : Int) ≤ Lib.indexByte s.data.toList c) = false := decide_eq_false h
    clear hs HR
    go_wp2_with fail
    go_ret3
    exact ⟨by rw [HCU.out]; rfl, 0, rfl⟩
theorem cut_calls (s : ByteArray) (c : UInt8) (hb : s.size ≤ 140737488355328) (w : World) : Calls Tryd.prog 36 #[.string s, .string ⟨#[c]⟩] w fun e w' => e = .returned (.tuple #[.string ⟨(cutL s.data.toList c).1.toArray⟩, .string ⟨(cutL s.data.toList c).2.1.toArray⟩, .bool (cutL s.data.toList c).2.2]) ∧ ∃ n, w' = w.drewN n := by
  go_enter Tryd.func36, Tryd.ntmps36
  go_wp2_with fail
  refine (cut_inner s c hb w).mono ?_
  obtain ⟨R, hR⟩ : ∃ R, cutL s.data.toList c = R := ⟨_, rfl⟩
  rw [hR]
  rintro e w1 ⟨rfl, n, hw⟩
  have HW := Aside0.mk hw
  have HR := Aside0.mk hR
  clear hw hR
  go_wp2_with fail
  go_ret3
  exact ⟨by rw [HR.out]; rfl, n, HW.out⟩
theorem trim_ex : Lib.trimRightB (({ data := #[] } : ByteArray) ++ { data := #[56, 48, 48, 48, 48, 48, 48, 48, 48, 48, 48, 48, 48] }).data.toList 48 = [56] := by decide
theorem dec_ex : Lib.decDigits 0 = [48] := by
  unfold Lib.decDigits
  rfl
theorem digs_ex : strOfNums (digs 2251799813685248 (12 + 1)) = ⟨#[56, 48, 48, 48, 48, 48, 48, 48, 48, 48, 48, 48, 48]⟩ := by decide
set_option maxHeartbeats 1600000 in
set_option maxRecDepth 100000 in
theorem text_ex (w : World) (hz : w.cell? ⟨6, 15, none⟩ = some (.int .u8 4)) : Calls Tryd.prog 11 #[.int .u64 4609434218613702656] w fun e w' => e = .returned (.string ⟨#[48, 120, 49, 46, 56, 112, 48]⟩) ∧ Below w.heap.size w w' := by
  have e1 : decide (9218868437227405312 < rg 4609434218613702656) = false := by decide
  have b1 : Go.bits .and .u64 4609434218613702656 9223372036854775808 = 0 := by decide
  have b2 : (4609434218613702656 : Int) / 4503599627370496 = 1023 := by decide
  have b3 : Go.bits .and .u64 1023 2047 = 1023 := by decide
  have b4 : Go.bits .and .u64 4609434218613702656 4503599627370495 = 2251799813685248 := by decide
  go_enter Tryd.func11, Tryd.ntmps11
  go_wp2_with fail
  refine (isnanp_calls 4609434218613702656 w).mono ?_
  rw [e1]
  rintro e w1 ⟨rfl, rfl⟩
  go_wp2_with fail
  refine (fmt_pub 2251799813685248 (by decide) w1 hz).mono ?_
  rintro e w2 ⟨j, rfl, hj, h1, h2, hB⟩
  have hj12 : j = 12 := by
    have : j = 0 ∨ j = 1 ∨ j = 2 ∨ j = 3 ∨ j = 4 ∨ j = 5 ∨ j = 6 ∨ j = 7 ∨ j = 8 ∨ j = 9 ∨ j = 10 ∨ j = 11 ∨ j = 12 ∨ j = 13 ∨ j = 14 ∨ j = 15 := by omega
    rcases this with rfl | rfl | rfl | rfl | rfl | rfl | rfl | rfl | rfl | rfl | rfl | rfl | rfl | rfl | rfl | rfl
    · exact absurd h1 (by decide)
    · exact absurd h1 (by decide)
    · exact absurd h1 (by decide)
    · exact absurd h1 (by decide)
    · exact absurd h1 (by decide)
    · exact absurd h1 (by decide)
    · exact absurd h1 (by decide)
    · exact absurd h1 (by decide)
    · exact absurd h1 (by decide)
    · exact absurd h1 (by decide)
    · exact absurd h1 (by decide)
    · exact absurd h1 (by decide)
    · rfl
    · exact absurd h2 (by decide)
    · exact absurd h2 (by decide)
    · exact absurd h2 (by decide)
  subst hj12
  rw [digs_ex]
  have HB := Aside0.mk hB
  clear hB h1 h2 hz
  go_wp2_with fail
  refine (Tryd.strings_Repeat_zero _ _).mono ?_
  rintro e w3 ⟨rfl, rfl⟩
  go_wp2_with fail
  refine (Tryd.strings_TrimRight_one _ 48 (by decide) _ (by decide)).mono ?_
  rw [trim_ex]
  rintro e w3 ⟨rfl, rfl⟩
  go_wp2_with fail
  refine (Tryd.strconv_Itoa_small 0 (by decide) _).mono ?_
  rw [dec_ex]
  rintro e w3 ⟨rfl, rfl⟩
  go_wp2_with fail
  go_ret
  exact ⟨by rfl, HB.out⟩
theorem cut1 : cutL (⟨#[49, 46, 56, 112, 48]⟩ : ByteArray).data.toList 112 = ([49, 46, 56], [48], true) := by decide
theorem cut2 : cutL (⟨[49, 46, 56].toArray⟩ : ByteArray).data.toList 46 = ([49], [56], true) := by decide
theorem atoi0 : Lib.atoiAll (⟨[48].toArray⟩ : ByteArray).data.toList = .ok 0 := by decide
theorem hval_ex : hval (({ data := #[48] } : ByteArray) ++ { data := #[56] } ++ { data := #[48, 48, 48, 48, 48, 48, 48, 48, 48, 48, 48, 48] }).data.toList = 2251799813685248 := by decide
theorem rep12 : Lib.repeatL (⟨#[48]⟩ : ByteArray).data.toList 12 = [48, 48, 48, 48, 48, 48, 48, 48, 48, 48, 48, 48] := by decide
set_option maxHeartbeats 1600000 in
set_option maxRecDepth 100000 in
theorem number_ex (w : World) : Calls Tryd.prog 21 #[.string ⟨#[49, 46, 56, 112, 48]⟩] w fun e w' => e = .returned (.tuple #[.int .u64 4609434218613702656, .bool true]) ∧ Below w.heap.size w w' := by
  go_enter Tryd.func21, Tryd.ntmps21
  go_wp2_with fail
  refine (cut_calls _ 112 (by decide) w).mono ?_
  rw [cut1]
  rintro e w1 ⟨rfl, n1, hw⟩
  have HB1 : Aside0 (Below w.heap.size w w1) := ⟨by rw [hw]; exact pw_below_drewN (Below.refl _ _) n1⟩
  clear hw
  go_wp2_with fail
  refine (cut_calls _ 46 (by decide) w1).mono ?_
  rw [cut2]
  rintro e w2 ⟨rfl, n2, hw⟩
  have HB2 : Aside0 (Below w.heap.size w w2) := ⟨by rw [hw]; exact pw_below_drewN HB1.out n2⟩
  clear hw HB1
  go_wp2_with fail
  refine (Tryd.strconv_Atoi_ok _ (by decide) 0 atoi0 w2).mono ?_
  rintro e w3 ⟨rfl, hw⟩
  have HB3 : Aside0 (Below w.heap.size w w3) := ⟨by
    rcases hw with rfl | ⟨t, rfl⟩
    · exact HB2.out
    · exact below_step HB2.out (Lib.bytesWorld_below _ _ _)⟩
  clear hw HB2
  go_wp2_with fail
  refine (Tryd.strings_Repeat ⟨#[48]⟩ 12 w3 (by decide) (by decide)).mono ?_
  rw [rep12]
  rintro e w4 ⟨rfl, hB⟩
  have HB4 := Aside0.mk (below_step HB3.out hB)
  clear hB HB3
  have b1 : Go.bits .or .u64 4607182418800017408 2251799813685248 = 4609434218613702656 := by decide
  go_wp2_with fail
  refine (parse_pub _ (by decide) (by decide) (by decide) w4).mono ?_
  rw [hval_ex]
  rintro e w5 ⟨rfl, hB⟩
  have HB5 := Aside0.mk (below_step HB4.out hB)
  clear hB HB4
  go_wp2_with fail
  go_ret2
  exact ⟨rfl, HB5.out⟩
theorem pre1 : Lib.trimPrefix (⟨#[48, 120, 49, 46, 56, 112, 48]⟩ : ByteArray).data.toList (⟨#[45]⟩ : ByteArray).data.toList = [48, 120, 49, 46, 56, 112, 48] := by decide
theorem pre1' : Lib.hasPrefix (⟨#[48, 120, 49, 46, 56, 112, 48]⟩ : ByteArray).data.toList (⟨#[45]⟩ : ByteArray).data.toList = false := by decide
theorem pre2 : Lib.trimPrefix (⟨[48, 120, 49, 46, 56, 112, 48].toArray⟩ : ByteArray).data.toList (⟨#[48, 120]⟩ : ByteArray).data.toList = [49, 46, 56, 112, 48] := by decide
theorem pre2' : Lib.hasPrefix (⟨[48, 120, 49, 46, 56, 112, 48].toArray⟩ : ByteArray).data.toList (⟨#[48, 120]⟩ : ByteArray).data.toList = true := by decide
set_option maxHeartbeats 1600000 in
set_option maxRecDepth 100000 in
theorem parse_ex (w : World) (hz : w.cell? ⟨6, 15, none⟩ = some (.int .u8 4)) : Calls Tryd.prog 9 #[.string ⟨#[48, 120, 49, 46, 56, 112, 48]⟩] w fun e w' => e = .returned (.tuple #[.int .u64 4609434218613702656, .int .i64 0]) ∧ Below w.heap.size w w' := by
  have HZ := Aside0.mk hz
  clear hz
  go_enter Tryd.func9, Tryd.ntmps9
  go_wp2_with fail
  refine (Tryd.strings_CutPrefix _ _ w).mono ?_
  rw [pre1, pre1']
  rintro e w1 ⟨rfl, rfl⟩
  go_wp2_with fail
  refine (Tryd.strings_CutPrefix _ _ w1).mono ?_
  rw [pre2, pre2']
  rintro e w2 ⟨rfl, rfl⟩
  go_wp2_with fail
  refine (number_ex w2).mono ?_
  rintro e w3 ⟨rfl, hB⟩
  have HB3 := Aside0.mk hB
  have hz3 : w3.cell? ⟨6, 15, none⟩ = some (.int .u8 4) := by
    have h0 : 6 < w2.heap.size := by
      rcases Nat.lt_or_ge 6 w2.heap.size with h0 | h0
      · exact h0
      · have := HZ.out
        simp [World.cell?, Array.getElem?_eq_none h0] at this
    exact (hB.cell (p := ⟨6, 15, none⟩) h0).trans HZ.out
  clear hB
  go_wp2_with fail
  refine (text_ex w3 hz3).mono ?_
  rintro e w4 ⟨rfl, hB⟩
  have HB4 := Aside0.mk (below_step HB3.out hB)
  clear hB HB3 hz3
  go_wp2_with fail
  go_ret2
  exact ⟨rfl, HB4.out⟩
theorem num_calls (n : Int) (w : World) : Calls Tryd.prog 14 #[.int .i64 n] w fun e w' => e = .returned (.int .i64 n) ∧ w' = w := by
  go_enter Tryd.func14, Tryd.ntmps14
  go_wp2_with fail
  go_ret
  exact ⟨rfl, rfl⟩
theorem ar1 : res (fop .add 4607182418800017408 13830554455654793216) = 0 := by decide
theorem ar2 : res (fop .quo 4607182418800017408 9223372036854775808) = 18442240474082181120 := by decide
theorem tor1 : toR 9221120237041090560 = 2147483647 := by decide
theorem cls0 : cls 0 = 16 := by decide
theorem cell_old {w w' : World} {v : Value} (hz : w.cell? ⟨6, 15, none⟩ = some v) (hB : Below w.heap.size w w') : w'.cell? ⟨6, 15, none⟩ = some v := by
  have h0 : 6 < w.heap.size := by
    rcases Nat.lt_or_ge 6 w.heap.size with h0 | h0
    · exact h0
    · simp [World.cell?, Array.getElem?_eq_none h0] at hz
  exact (hB.cell (p := ⟨6, 15, none⟩) h0).trans hz
set_option maxHeartbeats 1600000 in
set_option maxRecDepth 100000 in
theorem works_calls (w : World) (hz : w.cell? ⟨6, 15, none⟩ = some (.int .u8 4)) : Calls Tryd.prog 13 #[] w fun e w' => e = .returned (.bool true) ∧ Below w.heap.size w w' := by
  have HZ := Aside0.mk hz
  clear hz
  go_enter Tryd.func13, Tryd.ntmps13
  go_wp2_with fail
  refine (prog46 (a := 4607182418800017408) (b := 13830554455654793216) (by decide) (by decide) w).mono ?_
  rw [ar1]
  rintro e w1 ⟨rfl, n1, hw⟩
  have HB1 : Aside0 (Below w.heap.size w w1) := ⟨by rw [hw]; exact pw_below_drewN (Below.refl _ _) n1⟩
  clear hw
  go_wp2_with fail
  refine (prog49 (a := 4607182418800017408) (b := 9223372036854775808) (by decide) (by decide) w1).mono ?_
  rw [ar2]
  rintro e w2 ⟨rfl, n2, hw⟩
  have HB2 : Aside0 (Below w.heap.size w w2) := ⟨by rw [hw]; exact pw_below_drewN HB1.out n2⟩
  clear hw HB1
  go_wp2_with fail
  refine (parse_ex w2 (cell_old HZ.out HB2.out)).mono ?_
  rintro e w3 ⟨rfl, hB⟩
  have HB3 := Aside0.mk (below_step HB2.out hB)
  clear hB HB2
  go_wp2_with fail
  refine (num_calls _ _).mono ?_
  rintro e w4 ⟨rfl, rfl⟩
  go_wp2_with fail
  refine (num_calls _ _).mono ?_
  rintro e w4 ⟨rfl, rfl⟩
  go_wp2_with fail
  refine (num_calls _ _).mono ?_
  rintro e w4 ⟨rfl, rfl⟩
  go_wp2_with fail
  refine (to_prog 9221120237041090560 _).mono ?_
  rw [tor1]
  rintro e w4 ⟨rfl, rfl⟩
  go_wp2_with fail
  refine (class_prog (a := 0) (by decide) _).mono ?_
  rw [cls0]
  rintro e w4 ⟨rfl, rfl⟩
  go_wp2_with fail
  go_ret
  exact ⟨rfl, HB3.out⟩
end Go.Proofs.YtjaeligjcgjamaaDoor.DWorks
