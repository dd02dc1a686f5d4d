/- Windows begin at their very cycles, in order, without end: the plain law. -/
import Derived.Test.YtagnlbpndldfeaaSPlanCalls
namespace Go.Proofs.Ytagnlbpndldfeaa.SCycPure
open Go.RowKit Go.Proofs.Ytagnlbpndldfeaa.PSchedPlays Go.Proofs.Ytagnlbpndldfeaa.PlanBase Go.Proofs.Ytagnlbpndldfeaa.SPlanAt Go.Proofs.Ytagnlbpndldfeaa.SPlanStart Go.Proofs.Ytagnlbpndldfeaa.SPlanCalls
set_option linter.unusedVariables false
set_option linter.unusedSimpArgs false

def gd (l : List S45) (k : Nat) : S45 := l.getD k z45
theorem rd_gd (l : List S45) (k : Nat) : rd_T45 l (k : Int) = gd l k := by
  unfold rd_T45 gd
  rw [Int.toNat_natCast]
theorem gd_mem {l : List S45} {k : Nat} (h : k < l.length) : gd l k ∈ l := by
  rw [← rd_gd]
  exact rd_mem l k h
theorem atIdx_hit {x : Int} : ∀ {l : List S45} {k : Nat} (b : Nat), k < l.length → (gd l k).f1 ≤ x → x < (gd l k).f1 + (gd l k).f2 → (∀ m, m < k → ¬ ((gd l m).f1 ≤ x ∧ x < (gd l m).f1 + (gd l m).f2)) → atIdx x b l = some (b + k)
  | [], _, _, h, _, _, _ => by simp at h
  | y :: r, 0, b, _, h1, h2, _ => by
    have h1 : y.f1 ≤ x := h1
    have h2 : x < y.f1 + y.f2 := h2
    rw [atIdx, if_pos ⟨h1, h2⟩]
    rfl
  | y :: r, k + 1, b, h, h1, h2, h3 => by
    have h4 : ¬ (y.f1 ≤ x ∧ x < y.f1 + y.f2) := h3 0 (by omega)
    rw [atIdx, if_neg h4, atIdx_hit (k := k) (b + 1) (by simpa using h) h1 h2 (fun m hm => h3 (m + 1) (by omega))]
    congr 1
    omega
theorem atIdx_is {x : Int} : ∀ {l : List S45} {b m : Nat}, atIdx x b l = some m → b ≤ m ∧ m - b < l.length ∧ (gd l (m - b)).f1 ≤ x ∧ x < (gd l (m - b)).f1 + (gd l (m - b)).f2
  | [], _, _, h => by simp [atIdx] at h
  | y :: r, b, m, h => by
    rw [atIdx] at h
    split at h
    · next hc =>
      obtain rfl : b = m := by simpa using h
      refine ⟨Nat.le_refl _, by simp, ?_⟩
      rw [Nat.sub_self]
      exact hc
    · obtain ⟨h1, h2, h3⟩ := atIdx_is h
      have e : m - b = (m - (b + 1)) + 1 := by omega
      refine ⟨by omega, by rw [e]; simpa using h2, ?_⟩
      rw [e]
      exact h3
theorem nextIdx_hit {x : Int} : ∀ {l : List S45} {k : Nat} (b : Nat), k < l.length → x ≤ (gd l k).f1 → (∀ m, m < k → (gd l m).f1 < x) → nextIdx x b l = some (b + k)
  | [], _, _, h, _, _ => by simp at h
  | y :: r, 0, b, _, h1, _ => by
    have h1 : x ≤ y.f1 := h1
    rw [nextIdx, if_pos h1]
    rfl
  | y :: r, k + 1, b, h, h1, h3 => by
    have h4 : y.f1 < x := h3 0 (by omega)
    rw [nextIdx, if_neg (by omega), nextIdx_hit (k := k) (b + 1) (by simpa using h) h1 (fun m hm => h3 (m + 1) (by omega))]
    congr 1
    omega
theorem nextIdx_none {x : Int} : ∀ {l : List S45} (b : Nat), (∀ m, m < l.length → (gd l m).f1 < x) → nextIdx x b l = none
  | [], _, _ => rfl
  | y :: r, b, h => by
    have h4 : y.f1 < x := h 0 (by simp)
    rw [nextIdx, if_neg (by omega)]
    exact nextIdx_none (b + 1) (fun m hm => h (m + 1) (by simpa using hm))
theorem ord_from : ∀ {l : List S45} {e : Int} {k : Nat}, (∀ y ∈ l, 1 ≤ y.f2) → Ord e l → k < l.length → e ≤ (gd l k).f1
  | [], _, _, _, _, h => by simp at h
  | y :: r, e, 0, _, h, _ => h.1
  | y :: r, e, k + 1, h1, h, hk => by
    have h2 := h1 y (List.mem_cons_self ..)
    have h3 := ord_from (k := k) (fun z hz => h1 z (List.mem_cons_of_mem _ hz)) h.2 (by simpa using hk)
    have h4 := h.1
    show e ≤ (gd r k).f1
    omega
theorem ord_lt : ∀ {l : List S45} {e : Int} {i k : Nat}, (∀ y ∈ l, 1 ≤ y.f2) → Ord e l → i < k → k < l.length → (gd l i).f1 + (gd l i).f2 ≤ (gd l k).f1
  | [], _, _, _, _, _, _, h => by simp at h
  | _ :: _, _, _, 0, _, _, h, _ => by omega
  | y :: r, e, 0, k + 1, h1, h, _, hk => ord_from (k := k) (fun z hz => h1 z (List.mem_cons_of_mem _ hz)) h.2 (by simpa using hk)
  | y :: r, e, i + 1, k + 1, h1, h, hik, hk => ord_lt (i := i) (k := k) (fun z hz => h1 z (List.mem_cons_of_mem _ hz)) h.2 (by omega) (by simpa using hk)
theorem div_of {j M p : Int} (h0 : 0 ≤ p) (h1 : p < M) : (j * M + p) / M = j ∧ (j * M + p) % M = p := by
  constructor
  · rw [Int.add_comm, Int.add_mul_ediv_right _ _ (by omega), Int.ediv_eq_zero_of_lt h0 h1]
    omega
  · rw [Int.add_comm, Int.add_mul_emod_self_right, Int.emod_eq_of_lt h0 h1]
/-- Where the rounds stand. -/
def Inv (M : Int) (l : List S45) (j t : Int) (i : Nat) : Prop := nextR M l t = (j, (i : Int), 0) ∧ t ≤ j * M + (gd l i).f1
section
variable {M : Int} {l : List S45} (hF : Fit M l) (hO : Ord 0 l) {j : Int} (j0 : 0 ≤ j) (j1 : j ≤ 2000000)
include hF j0 j1
theorem big : 0 ≤ j * M ∧ j * M ≤ 33554432000000 := by
  obtain ⟨M0, M1, _⟩ := hF
  refine ⟨Int.mul_nonneg j0 (by omega), ?_⟩
  have := Int.mul_le_mul j1 M1 (by omega) (by omega)
  omega
theorem next_at {p : Int} {i : Nat} (hi : i < l.length) (p0 : 0 ≤ p) (p1 : p ≤ (gd l i).f1) (hm : ∀ m, m < i → (gd l m).f1 < p) : Inv M l j (j * M + p) i := by
  obtain ⟨b0, b1⟩ := big hF j0 j1
  obtain ⟨M0, M1, hl, h⟩ := hF
  obtain ⟨u0, u1, v0, v1⟩ := h _ (gd_mem hi)
  obtain ⟨e1, e2⟩ := div_of (j := j) (M := M) p0 (by omega)
  refine ⟨?_, by omega⟩
  unfold nextR
  rw [if_neg (by omega), e1, e2, nextIdx_hit 0 hi p1 hm, Nat.zero_add]
  rfl
theorem next_wrap {p : Int} (hl0 : 0 < l.length) (p0 : 0 ≤ p) (p1 : p < M) (hm : ∀ m, m < l.length → (gd l m).f1 < p) : Inv M l (j + 1) (j * M + p) 0 := by
  obtain ⟨b0, b1⟩ := big hF j0 j1
  obtain ⟨M0, M1, hl, h⟩ := hF
  obtain ⟨u0, u1, v0, v1⟩ := h _ (gd_mem hl0)
  obtain ⟨e1, e2⟩ := div_of (j := j) (M := M) p0 p1
  refine ⟨?_, ?_⟩
  · unfold nextR
    rw [if_neg (by omega), e1, e2, nextIdx_none 0 hm]
    rfl
  · have : (j + 1) * M = j * M + M := by rw [Int.add_mul, Int.one_mul]
    omega
theorem inv_first (hl0 : 0 < l.length) : Inv M l j (j * M) 0 := by
  have h := hF.2.2.2 _ (gd_mem hl0)
  have := next_at hF j0 j1 (p := 0) hl0 (by omega) h.1 (fun m hm => by omega)
  rwa [Int.add_zero] at this
include hO
theorem inv_next {i : Nat} (hi : i + 1 < l.length) : Inv M l j (j * M + (gd l i).f1 + 1) (i + 1) := by
  have h := hF.2.2.2 _ (gd_mem (show i < l.length by omega))
  have hp : ∀ y ∈ l, 1 ≤ y.f2 := fun y hy => (hF.2.2.2 y hy).2.2.1
  rw [Int.add_assoc]
  have h2 := ord_lt hp hO (show i < i + 1 by omega) hi
  refine next_at hF j0 j1 hi (by omega) (by omega) (fun m hm => ?_)
  by_cases hmi : m = i
  · subst hmi
    omega
  · have := ord_lt hp hO (show m < i by omega) (by omega)
    have := hp _ (gd_mem (show m < l.length by omega))
    omega
theorem inv_wrap {i : Nat} (hi : i + 1 = l.length) : Inv M l (j + 1) (j * M + (gd l i).f1 + 1) 0 := by
  have h := hF.2.2.2 _ (gd_mem (show i < l.length by omega))
  have hp : ∀ y ∈ l, 1 ≤ y.f2 := fun y hy => (hF.2.2.2 y hy).2.2.1
  have hm : ∀ m, m < l.length → (gd l m).f1 < (gd l i).f1 + 1 := fun m hm => by
    by_cases hmi : m = i
    · subst hmi
      omega
    · have := ord_lt hp hO (show m < i by omega) (by omega)
      have := hp _ (gd_mem (show m < l.length by omega))
      omega
  rw [Int.add_assoc]
  by_cases hM : (gd l i).f1 + 1 < M
  · exact next_wrap hF j0 j1 (by omega) (by omega) hM hm
  · have e : j * M + ((gd l i).f1 + 1) = (j + 1) * M := by
      rw [Int.add_mul, Int.one_mul]
      omega
    rw [e]
    by_cases hj : j + 1 ≤ 2000000
    · exact inv_first hF (by omega) hj (by omega)
    · have b := big hF j0 j1
      have hl0 : 0 < l.length := by omega
      have hz := hF.2.2.2 _ (gd_mem hl0)
      have e3 : (j + 1) * M = j * M + M := by rw [Int.add_mul, Int.one_mul]
      have M0 := hF.1
      have M1 := hF.2.1
      obtain ⟨e1, e2⟩ := div_of (j := j + 1) (M := M) (p := 0) (by omega) (by omega)
      rw [Int.add_zero] at e1 e2
      refine ⟨?_, by omega⟩
      unfold nextR
      rw [if_neg (by omega), e1, e2, nextIdx_hit 0 hl0 hz.1 (fun m hm => by omega), Nat.zero_add]
      rfl
omit hO in
theorem start_is {i : Nat} (hi : i < l.length) : startS M l j i = (j * M + (gd l i).f1, 0) := by
  have b := big hF j0 j1
  have h := hF.2.2.2 _ (gd_mem hi)
  have M0 := hF.1
  have M1 := hF.2.1
  have hd : j ≤ 281474976710656 / M := by
    refine Int.le_ediv_of_mul_le (by omega) ?_
    omega
  unfold startS
  rw [rd_gd, if_neg (by omega)]
/-- Behind a window's end stands the next one. -/
theorem end_next {i : Nat} (hi : i + 1 < l.length) : Inv M l j (j * M + (gd l i).f1 + (gd l i).f2) (i + 1) := by
  have h := hF.2.2.2 _ (gd_mem (show i < l.length by omega))
  have hp : ∀ y ∈ l, 1 ≤ y.f2 := fun y hy => (hF.2.2.2 y hy).2.2.1
  rw [Int.add_assoc]
  have h2 := ord_lt hp hO (show i < i + 1 by omega) hi
  refine next_at hF j0 j1 hi (by omega) h2 (fun m hm => ?_)
  by_cases hmi : m = i
  · subst hmi
    omega
  · have := ord_lt hp hO (show m < i by omega) (by omega)
    have := hp _ (gd_mem (show m < l.length by omega))
    omega
theorem end_wrap {i : Nat} (hi : i + 1 = l.length) (j2 : j + 1 ≤ 2000000) : Inv M l (j + 1) (j * M + (gd l i).f1 + (gd l i).f2) 0 := by
  have h := hF.2.2.2 _ (gd_mem (show i < l.length by omega))
  have hp : ∀ y ∈ l, 1 ≤ y.f2 := fun y hy => (hF.2.2.2 y hy).2.2.1
  have hm : ∀ m, m < l.length → (gd l m).f1 < (gd l i).f1 + (gd l i).f2 := fun m hm => by
    by_cases hmi : m = i
    · subst hmi
      omega
    · have := ord_lt hp hO (show m < i by omega) (by omega)
      have := hp _ (gd_mem (show m < l.length by omega))
      omega
  rw [Int.add_assoc]
  by_cases hM : (gd l i).f1 + (gd l i).f2 < M
  · exact next_wrap hF j0 j1 (by omega) (by omega) hM hm
  · have e : j * M + ((gd l i).f1 + (gd l i).f2) = (j + 1) * M := by
      rw [Int.add_mul, Int.one_mul]
      omega
    rw [e]
    exact inv_first hF (by omega) j2 (by omega)
end
end Go.Proofs.Ytagnlbpndldfeaa.SCycPure
