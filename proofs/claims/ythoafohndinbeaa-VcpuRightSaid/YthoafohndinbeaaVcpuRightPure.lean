/- What Set leaves as it was, and that what it makes of a right context is right: plain law. -/
import Derived.Test.YthoafohndinbeaaVcpuSet
import Derived.Test.YthoafohndinbeaaVcpuEnter
import Derived.Test.YthoafohndinbeaaVcpuEq
namespace Go.Proofs.Ythoafohndinbeaa.VcpuRightPure
open Go.Proofs.Ythoafohndinbeaa.VcpuBase Go.Proofs.Ythoafohndinbeaa.VcpuCheck Go.Proofs.Ythoafohndinbeaa.VcpuReg Go.Proofs.Ythoafohndinbeaa.VcpuSet Go.Proofs.Ythoafohndinbeaa.VcpuEq Go.Proofs.Ythoafohndinbeaa.Aid Go.RowKit
variable {c : Cx} {n v : Int}
theorem putV_bd (v0 : 0 ≤ v) (v1 : v < 4294967296) : 0 ≤ putV n v ∧ putV n v < 4294967296 := by
  unfold putV
  split
  · omega
  · split
    · omega
    · split <;> omega
theorem wf_set (h : Wf c) (hn : 0 ≤ n ∧ n < 8) (v0 : 0 ≤ v) (v1 : v < 4294967296) : Wf (setC c n v) := by
  rw [setC_in c n v hn]
  have hb := putV_bd (n := n) v0 v1
  obtain ⟨h1, h2, h3, h4, h5, h6, h7, h8, h9, h10, h11, h12⟩ := h
  generalize putV n v = x at hb
  rcases eight hn.1 hn.2 with rfl | rfl | rfl | rfl | rfl | rfl | rfl | rfl

  · exact ⟨h1, h2, h3, hb, h5, h6, h7, h8, h9, h10, h11, h12⟩
  · exact ⟨h1, h2, h3, h4, hb, h6, h7, h8, h9, h10, h11, h12⟩
  · exact ⟨h1, h2, h3, h4, h5, hb, h7, h8, h9, h10, h11, h12⟩
  · exact ⟨h1, h2, h3, h4, h5, h6, hb, h8, h9, h10, h11, h12⟩
  · exact ⟨h1, h2, h3, h4, h5, h6, h7, hb, h9, h10, h11, h12⟩
  · exact ⟨h1, h2, h3, h4, h5, h6, h7, h8, hb, h10, h11, h12⟩
  · exact ⟨h1, h2, h3, h4, h5, h6, h7, h8, h9, hb, h11, h12⟩
  · exact ⟨h1, h2, h3, h4, h5, h6, h7, h8, h9, h10, hb, h12⟩
theorem right_set (h : RightC c) (hn : 0 ≤ n ∧ n < 8) : RightC (setC c n v) := by
  rw [setC_in c n v hn]
  obtain ⟨h1, h2, h3, h4, h5, h6, h7, h8, h9, h10⟩ := h
  rcases eight hn.1 hn.2 with rfl | rfl | rfl | rfl | rfl | rfl | rfl | rfl

  · exact ⟨h1, (show putV 0 v < 8 by unfold putV; simp; omega), h3, h4, h5, h6, h7, h8, h9, h10⟩
  · exact ⟨h1, h2, (show putV 1 v < 8 by unfold putV; simp; omega), h4, h5, h6, h7, h8, h9, h10⟩
  · exact ⟨h1, h2, h3, h4, h5, h6, h7, h8, h9, h10⟩
  · exact ⟨h1, h2, h3, h4, h5, (show putV 3 v % 4 = 0 by unfold putV; simp), h7, h8, h9, h10⟩
  · exact ⟨h1, h2, h3, h4, h5, h6, h7, h8, h9, h10⟩
  · exact ⟨h1, h2, h3, h4, h5, h6, (show putV 5 v % 4 = 0 by unfold putV; simp), h8, h9, h10⟩
  · exact ⟨h1, h2, h3, h4, h5, h6, h7, h8, h9, h10⟩
  · exact ⟨h1, h2, h3, (show putV 7 v < 256 by unfold putV; simp; omega), h5, h6, h7, h8, h9, h10⟩
theorem ctl_same {k : Nat} (hn : 0 ≤ n ∧ n < 8) (hk : (k : Int) ≠ n) (p t : Int) : ctlV (setC c n v) k p t = ctlV c k p t := by
  rw [setC_in c n v hn]
  unfold ctlV
  split
  · rfl
  · split
    · rfl
    · split
      · rfl
      · rename_i h1 h2 h3
        have hk8 : k < 8 := by omega
        rw [show ((k : Int)).toNat = k by omega]
        generalize putV n v = x
        have hk' : k = 0 ∨ k = 1 ∨ k = 2 ∨ k = 3 ∨ k = 4 ∨ k = 5 ∨ k = 6 ∨ k = 7 := by omega
        rcases eight hn.1 hn.2 with rfl | rfl | rfl | rfl | rfl | rfl | rfl | rfl <;> rcases hk' with rfl | rfl | rfl | rfl | rfl | rfl | rfl | rfl <;> first | rfl | exact absurd rfl hk
theorem ctl_own {k : Nat} (hn : 0 ≤ n ∧ n < 8) (hk : (k : Int) = n) (p t : Int) : ctlV (setC c n v) k p t = putV n v := by
  rw [setC_in c n v hn]
  unfold ctlV
  rw [if_neg (by omega), if_neg (by omega), if_neg (by omega)]
  subst hk
  rw [show ((k : Int)).toNat = k by omega]
  generalize putV (k : Int) v = x
  have hk' : k = 0 ∨ k = 1 ∨ k = 2 ∨ k = 3 ∨ k = 4 ∨ k = 5 ∨ k = 6 ∨ k = 7 := by omega
  rcases hk' with rfl | rfl | rfl | rfl | rfl | rfl | rfl | rfl <;> rfl
theorem ctlE_in {k : Nat} (hk : k < 10) : ctlE k = 0 := by
  unfold ctlE
  rw [if_neg (by omega)]
theorem sub_mask (x y : Nat) (h : ∀ j, x.testBit j = true → y.testBit j = true) (hy : y < 4294967296) : x &&& (4294967295 - y) = 0 := by
  refine Nat.eq_of_testBit_eq fun j => ?_
  have h1 := Nat.testBit_two_pow_sub_succ (n := 32) hy j
  have e : 2 ^ 32 - (y + 1) = 4294967295 - y := by omega
  rw [e] at h1
  rw [Nat.testBit_and, h1, Nat.zero_testBit]
  cases hb : x.testBit j with
  | false => rfl
  | true => simp [h j hb]
theorem put_within (v0 : 0 ≤ v) (v1 : v < 4294967296) : (Go.bits .andNot .u32 (putV n v) v == 0) = true := by
  obtain ⟨m, rfl⟩ := Int.eq_ofNat_of_zero_le v0
  have key : ∀ x : Nat, x < 4294967296 → (∀ j, x.testBit j = true → m.testBit j = true) → putV n (m : Int) = (x : Int) → (Go.bits .andNot .u32 (putV n (m : Int)) (m : Int) == 0) = true := by
    intro x hx hj he
    rw [he, u32_andNot_nat x m hx (by omega), sub_mask x m hj (by omega)]
    rfl
  have hmod : ∀ k : Nat, ∀ j, (m % 2 ^ k).testBit j = true → m.testBit j = true := by
    intro k j hj
    rw [Nat.testBit_mod_two_pow] at hj
    simp at hj
    exact hj.2
  by_cases h : n = 0 ∨ n = 1
  · refine key (m % 2 ^ 3) (by omega) (hmod 3) ?_
    unfold putV
    rw [if_pos h]
    omega
  · by_cases h2 : n = 3 ∨ n = 5
    · refine key (m / 2 ^ 2 * 2 ^ 2) (by omega) (fun j hj => ?_) ?_
      · rw [Nat.testBit_mul_two_pow] at hj
        simp only [Bool.and_eq_true, decide_eq_true_eq, Nat.testBit_div_two_pow] at hj
        rw [show j = j - 2 + 2 by omega]
        exact hj.2
      · unfold putV
        rw [if_neg h, if_pos h2]
        omega
    · by_cases h3 : n = 7
      · refine key (m % 2 ^ 8) (by omega) (hmod 8) ?_
        unfold putV
        rw [if_neg h, if_neg h2, if_pos h3]
        omega
      · refine key m (by omega) (fun j hj => hj) ?_
        unfold putV
        rw [if_neg h, if_neg h2, if_neg h3]
theorem set_again (hn : 0 ≤ n ∧ n < 8) : setC (setC c n v) n v = setC c n v := by
  rw [setC_in _ n v hn, setC_in c n v hn]
  generalize putV n v = x
  rcases eight hn.1 hn.2 with rfl | rfl | rfl | rfl | rfl | rfl | rfl | rfl <;> rfl
theorem set_regs (hn : 0 ≤ n ∧ n < 8) : regsEq (setC c n v) c = true ∧ (setC c n v).ha = c.ha ∧ (setC c n v).id = c.id := by
  rw [setC_in c n v hn]
  generalize putV n v = x
  rcases eight hn.1 hn.2 with rfl | rfl | rfl | rfl | rfl | rfl | rfl | rfl <;> exact ⟨regsEq_self c, rfl, rfl⟩
end Go.Proofs.Ythoafohndinbeaa.VcpuRightPure
