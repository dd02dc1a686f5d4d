/- Each float is of one class: the walk of the law. -/
import Derived.Test.YtjaeligjcgjamaaDoorDFacts2
namespace Go.Proofs.YtjaeligjcgjamaaDoor.DLawClasses
open Ieee Go.RowKit Go.Proofs.YtjaeligjcgjamaaDoor.PRealOrder Go.Proofs.YtjaeligjcgjamaaDoorW.PrintWords Go.Proofs.YtjaeligjcgjamaaDoorW.PrintLast Go.Proofs.YtjaeligjcgjamaaDoorW.PrintMore Go.Proofs.YtjaeligjcgjamaaDoor.Aid Go.Proofs.YtjaeligjcgjamaaDoor.FloatPlain Go.Proofs.YtjaeligjcgjamaaDoor.DRealPure Go.Proofs.YtjaeligjcgjamaaDoor.DRealFl Go.Proofs.YtjaeligjcgjamaaDoor.DRealAr Go.Proofs.YtjaeligjcgjamaaDoor.DRealPick Go.Proofs.YtjaeligjcgjamaaDoor.DLawAriths Go.Proofs.YtjaeligjcgjamaaDoor.DLawCompares Go.Proofs.YtjaeligjcgjamaaDoor.DWorks Go.Proofs.YtjaeligjcgjamaaDoor.DFacts Go.Proofs.YtjaeligjcgjamaaDoor.DFacts2
set_option linter.unusedVariables false
set_option linter.unusedSimpArgs false
theorem ng_top {a : Nat} (h : a < 18446744073709551616) : (9223372036854775808 ≤ ng a) ↔ ¬ 9223372036854775808 ≤ a := by
  unfold ng
  split <;> omega
theorem classes {a : Nat} (h : a < 18446744073709551616) : ∃ i : Nat, i < 10 ∧ cls a = 2 ^ i ∧ cls (ng a) = 2 ^ (if i < 8 then 7 - i else i) := by
  unfold cls
  rw [ng_rg h]
  have ht := ng_top h
  by_cases c1 : 9218868437227405312 < rg a
  · simp only [if_pos c1]
    by_cases c2 : rg a / 2251799813685248 % 2 = 1
    · simp only [if_pos c2]
      exact ⟨9, by decide, by decide, by decide⟩
    · simp only [if_neg c2]
      exact ⟨8, by decide, by decide, by decide⟩
  simp only [if_neg c1]
  by_cases c0 : 9223372036854775808 ≤ a
  · have n0 : ¬ 9223372036854775808 ≤ ng a := fun q => ht.1 q c0
    simp only [if_pos c0, if_neg n0]
    by_cases c2 : rg a = 9218868437227405312
    · simp only [if_pos c2]
      exact ⟨0, by decide, by decide, by decide⟩
    simp only [if_neg c2]
    by_cases c3 : 4503599627370496 ≤ rg a
    · simp only [if_pos c3]
      exact ⟨1, by decide, by decide, by decide⟩
    simp only [if_neg c3]
    by_cases c4 : 0 < rg a
    · simp only [if_pos c4]
      exact ⟨2, by decide, by decide, by decide⟩
    simp only [if_neg c4]
    exact ⟨3, by decide, by decide, by decide⟩
  · have n0 : 9223372036854775808 ≤ ng a := ht.2 c0
    simp only [if_neg c0, if_pos n0]
    by_cases c2 : rg a = 9218868437227405312
    · simp only [if_pos c2]
      exact ⟨7, by decide, by decide, by decide⟩
    simp only [if_neg c2]
    by_cases c3 : 4503599627370496 ≤ rg a
    · simp only [if_pos c3]
      exact ⟨6, by decide, by decide, by decide⟩
    simp only [if_neg c3]
    by_cases c4 : 0 < rg a
    · simp only [if_pos c4]
      exact ⟨5, by decide, by decide, by decide⟩
    simp only [if_neg c4]
    exact ⟨4, by decide, by decide, by decide⟩
def tab : Array Value := #[.int .i64 7, .int .i64 6, .int .i64 5, .int .i64 4, .int .i64 3, .int .i64 2, .int .i64 1, .int .i64 0, .int .i64 8, .int .i64 9]
theorem classes2 {a : Nat} (h : a < 18446744073709551616) : ∃ k j C D : Nat, k < 10 ∧ j < 10 ∧ cls a = (C : Int) ∧ cls (ng a) = (D : Int) ∧ C = 2 ^ k ∧ D = 2 ^ j ∧ tab[k]? = some (.int .i64 (j : Int)) := by
  obtain ⟨k, h1, h2, h3⟩ := classes h
  refine ⟨k, _, 2 ^ k, 2 ^ (if k < 8 then 7 - k else k), h1, ?_, h2.trans (by simp), h3.trans (by simp), rfl, rfl, ?_⟩
  · split <;> omega
  · have : k = 0 ∨ k = 1 ∨ k = 2 ∨ k = 3 ∨ k = 4 ∨ k = 5 ∨ k = 6 ∨ k = 7 ∨ k = 8 ∨ k = 9 := by omega
    rcases this with rfl | rfl | rfl | rfl | rfl | rfl | rfl | rfl | rfl | rfl <;> rfl
theorem two_in : ∀ k : Fin 10, ∀ i : Fin 10, (((2 ^ k.val : Nat) : Int) == 2 ^ i.val % 4294967296) = decide (i.val = k.val) := by decide
theorem two_at {C k i : Nat} (h : C = 2 ^ k) (hk : k < 10) (hi : i < 10) : ((C : Int) == 2 ^ i % 4294967296) = decide (i = k) := by
  subst h
  exact two_in ⟨k, hk⟩ ⟨i, hi⟩
set_option maxHeartbeats 1600000 in
set_option maxRecDepth 100000 in
theorem law (a : Nat) (w : World) (ha : a < 18446744073709551616) (hz : w.cell? ⟨6, 15, none⟩ = some (.int .u8 4)) :
    Calls Tryd.prog 5 #[.int .u64 a] w fun e w' => e = .returned (.bool true) ∧ Below w.heap.size w w' := by
  obtain ⟨k, j, C, D, hk, hj, hc, hd, hC, hD, ht⟩ := classes2 ha
  have HCC := Aside0.mk hC
  have HDD := Aside0.mk hD
  have HT := Aside0.mk ht
  clear hC hD ht
  have ex := xor_ng ha
  have hm := ng_lt ha
  have HC := Aside0.mk hc
  have HD := Aside0.mk hd
  have HXX := Aside0.mk ex
  clear hc hd ex
  go_enter Tryd.func5, Tryd.ntmps5
  go_wp2_with fail
  refine (works_calls w hz).mono ?_
  rintro e w1 ⟨rfl, hB⟩
  have HB1 := Aside0.mk hB
  clear hB hz
  go_wp2_with fail
  have HG : Aside0 ((w1.alloc (.cells tab 30)).heap[w1.heap.size]? = some (.cells tab 30 (0, 0))) := ⟨blk_new w1 _⟩
  have HB2 : Aside0 (Below w.heap.size w (w1.alloc (.cells tab 30))) := ⟨below_alloc HB1.out _⟩
  clear HB1
  change Calls Tryd.prog 15 #[Value.int IntKind.u64 a] (w1.alloc (.cells tab 30)) _
  generalize w1.alloc (.cells tab 30) = w2 at *
  generalize w1.heap.size = g at *
  refine (class_prog ha _).mono ?_
  rw [HC.out]
  rintro e w3 ⟨rfl, rfl⟩
  go_wp2_with fail
  refine (prog53 ha (b := 0) (by decide) _).mono ?_
  rw [HXX.out]
  rintro e w4 ⟨rfl, n, hw⟩
  have HB3 : Aside0 (Below w.heap.size w w4) := ⟨by rw [hw]; exact pw_below_drewN HB2.out n⟩
  have HG3 : Aside0 (w4.heap[g]? = some (.cells tab 30 (0, 0))) := ⟨by rw [hw]; exact HG.out⟩
  clear hw HB2 HG
  go_wp2_with fail
  refine (class_prog hm _).mono ?_
  rw [HD.out]
  rintro e w5 ⟨rfl, rfl⟩
  clear HC HD HXX hm ha
  go_wp2_with fail
  go_loopw [8] (fun si wr => ∃ i : Nat, si = .int .i64 (i : Int) ∧ i ≤ k ∧ Aside0 (wr = w5)) (fun si _ => 20 - (intOf si).toNat)
  case atStart => exact ⟨0, rfl, by omega, ⟨rfl⟩⟩
  case round =>
    obtain ⟨i, rfl, hi, HW⟩ := hrel
    have hw := HW.out
    subst hw
    clear HW
    have t0 : decide ((i : Int) < 10) = true := decide_eq_true (by omega)
    have hc0 := blk_cell HG3.out i
    have hf := blk_frozen HG3.out i
    have q1 := two_at HCC.out hk (i := i) (by omega)
    have q2 := two_at HDD.out hj (i := j) hj
    rw [decide_eq_true rfl] at q2
    by_cases hik : i = k
    · subst hik
      have hcell := hc0.trans HT.out
      rw [decide_eq_true rfl] at q1
      clear hc0
      go_wp2_with fail
      go_ret
      exact ⟨rfl, HB3.out⟩
    · rw [decide_eq_false hik] at q1
      clear hc0 q2 hf
      go_wp2_with fail
      go_roundw
      case rel => exact ⟨i + 1, by simp, by omega, ⟨by trivial⟩⟩
      case measure =>
        simp only [intOf]
        omega
end Go.Proofs.YtjaeligjcgjamaaDoor.DLawClasses
