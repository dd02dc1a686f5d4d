/- Who can influence whom: the least set that is shut under channels. No program here. -/
import Derived.Test.YtemblbcbkfkbfaaPReachGrowsx0
namespace Go.Proofs.Ytemblbcbkfkbfaa.ReachPlainG
open Go.RowKit Go.Proofs.Ytemblbcbkfkbfaa.PReachGrows Go.Proofs.YtemblbcbkfkbfaaW.PrintWords
set_option linter.unusedVariables false
/-- A partition that is there. -/
def inR (n : Nat) (p : Int) : Prop := 0 ≤ p ∧ p < (n : Int)
instance (n : Nat) (p : Int) : Decidable (inR n p) := inferInstanceAs (Decidable (_ ∧ _))
def Rule (n : Nat) (h : S31) (S : Int → Prop) : Prop := (S h.f2 → inR n h.f1 → S h.f1) ∧ (h.f0 = 2 → S h.f1 → inR n h.f2 → S h.f2)
def Within (n : Nat) (S : Int → Prop) : Prop := ∀ p, S p → inR n p
def ShutC (n : Nat) (cs : List S31) (S : Int → Prop) : Prop := ∀ h ∈ cs, Rule n h S
/-- It holds the one, and nothing that is not in every set that is shut. -/
def Sound (n : Nat) (cs : List S31) (q : Int) (S : Int → Prop) : Prop := S q ∧ Within n S ∧ ∀ T : Int → Prop, T q → Within n T → ShutC n cs T → ∀ p, S p → T p
def Least (n : Nat) (cs : List S31) (q : Int) (S : Int → Prop) : Prop := Sound n cs q S ∧ ShutC n cs S
theorem Least.uniq {n : Nat} {cs : List S31} {q : Int} {S T : Int → Prop} (h : Least n cs q S) (k : Least n cs q T) (p : Int) : S p ↔ T p :=
  ⟨h.1.2.2 T k.1.1 k.1.2.1 k.2 p, k.1.2.2 S h.1.1 h.1.2.1 h.2 p⟩
theorem Sound.grow {n : Nat} {cs : List S31} {q : Int} {S S' : Int → Prop} {x : S31} {v : Int} (h : Sound n cs q S) (hx : x ∈ cs) (hv : inR n v) (hS : ∀ p, S' p ↔ S p ∨ p = v)
    (hr : (v = x.f1 ∧ S x.f2) ∨ (v = x.f2 ∧ x.f0 = 2 ∧ S x.f1)) : Sound n cs q S' := by
  obtain ⟨h1, h2, h3⟩ := h
  refine ⟨(hS q).2 (.inl h1), fun p hp => ?_, fun T t1 t2 t3 p hp => ?_⟩
  · rcases (hS p).1 hp with c | c
    · exact h2 p c
    · rw [c]
      exact hv
  · rcases (hS p).1 hp with c | c
    · exact h3 T t1 t2 t3 p c
    · rw [c]
      have hR := t3 x hx
      rcases hr with ⟨e, hs⟩ | ⟨e, hk, hs⟩
      · rw [e] at hv ⊢
        exact hR.1 (h3 T t1 t2 t3 _ hs) hv
      · rw [e] at hv ⊢
        exact hR.2 hk (h3 T t1 t2 t3 _ hs) hv
/-- The list of a set's numbers. -/
def outB (n : Nat) (s : Int → Bool) : List Int := ((List.range n).filter fun p : Nat => s (p : Int)).map fun p : Nat => (p : Int)
theorem outB_congr {n : Nat} {s t : Int → Bool} (h : ∀ p, inR n p → s p = t p) : outB n s = outB n t := by
  unfold outB
  congr 1
  apply List.filter_congr
  intro p hp
  rw [List.mem_range] at hp
  exact h p ⟨by omega, by omega⟩
theorem outB_succ (n : Nat) (s : Int → Bool) : outB (n + 1) s = outB n s ++ (if s (n : Int) then [(n : Int)] else []) := by
  unfold outB
  rw [List.range_succ, List.filter_append, List.map_append]
  congr 1
  cases h : s (n : Int) <;> simp [h]
theorem outB_len (n : Nat) (s : Int → Bool) : (outB n s).length ≤ n := by
  unfold outB
  rw [List.length_map]
  have := List.length_filter_le (fun p : Nat => s (p : Int)) (List.range n)
  rwa [List.length_range] at this
theorem outB_mem {n : Nat} {s : Int → Bool} {p : Int} : p ∈ outB n s ↔ inR n p ∧ s p = true := by
  unfold outB
  simp only [List.mem_map, List.mem_filter, List.mem_range]
  constructor
  · rintro ⟨k, ⟨hk, hs⟩, rfl⟩
    exact ⟨⟨by omega, by omega⟩, hs⟩
  · rintro ⟨⟨h0, h1⟩, hs⟩
    obtain ⟨k, rfl⟩ := Int.eq_ofNat_of_zero_le h0
    exact ⟨k, ⟨by omega, hs⟩, rfl⟩
/-- The numbers that are not there. -/
def miss (n : Nat) (s : Int → Bool) : Nat := ((List.range n).filter fun p : Nat => !s (p : Int)).length
theorem filter_lt {α : Type} (p q : α → Bool) : ∀ L : List α, (∀ x ∈ L, q x = true → p x = true) → (∃ x ∈ L, p x = true ∧ q x = false) → (L.filter q).length < (L.filter p).length
  | [], _, ⟨x, hx, _⟩ => by cases hx
  | a :: L, h, ⟨x, hx, hp, hq⟩ => by
    have hle : (L.filter q).length ≤ (L.filter p).length := by
      have key : ∀ M : List α, (∀ x ∈ M, q x = true → p x = true) → (M.filter q).length ≤ (M.filter p).length := by
        intro M
        induction M with
        | nil => intro _; exact Nat.le_refl _
        | cons b M ih =>
          intro hM
          have ih' := ih fun y hy => hM y (List.mem_cons_of_mem _ hy)
          have hb := hM b List.mem_cons_self
          cases hqb : q b <;> cases hpb : p b <;> simp [hqb, hpb] at hb ⊢ <;> omega
      exact key L fun y hy => h y (List.mem_cons_of_mem _ hy)
    rcases List.mem_cons.1 hx with rfl | hx'
    · simp [hp, hq]
      omega
    · have ih := filter_lt p q L (fun y hy => h y (List.mem_cons_of_mem _ hy)) ⟨x, hx', hp, hq⟩
      have hb := h a List.mem_cons_self
      cases hqb : q a <;> cases hpb : p a <;> simp [hqb, hpb] at hb ⊢ <;> omega
theorem miss_lt {n : Nat} {s t : Int → Bool} {v : Int} (hv : inR n v) (hs : s v = false) (ht : ∀ p, t p = (s p || p == v)) : miss n t < miss n s := by
  obtain ⟨h0, h1⟩ := hv
  obtain ⟨k, rfl⟩ := Int.eq_ofNat_of_zero_le h0
  refine filter_lt _ _ _ (fun x _ h => ?_) ⟨k, List.mem_range.2 (by omega), by simp [hs], by simp [ht]⟩
  rw [ht] at h
  cases hx : s (x : Int) <;> simp [hx] at h ⊢
theorem miss_le (n : Nat) (s : Int → Bool) : miss n s ≤ n := by
  unfold miss
  have := List.length_filter_le (fun p : Nat => !s (p : Int)) (List.range n)
  rwa [List.length_range] at this
/-- A list's numbers. -/
def has (l : List Int) (p : Int) : Bool := decide (p ∈ l)
theorem has_snoc (l : List Int) (v p : Int) : has (l ++ [v]) p = (has l p || p == v) := by
  unfold has
  rw [Bool.eq_iff_iff]
  simp
end Go.Proofs.Ytemblbcbkfkbfaa.ReachPlainG
