/- A row of windows, opened by AidRows, as the row of records of the printed words. -/
import Derived.Test.YtagnlbpndldfeaaPlanBase
import Derived.Test.YtagnlbpndldfeaaAidCfg
namespace Go.Proofs.Ytagnlbpndldfeaa.PlanRec
open Go.RowKit Go.Proofs.Ytagnlbpndldfeaa.PSchedPlays Go.Proofs.YtagnlbpndldfeaaW.PrintWords Go.Proofs.YtagnlbpndldfeaaW.PrintLast Go.Proofs.YtagnlbpndldfeaaW.PrintMore Go.Proofs.Ytagnlbpndldfeaa.Aid Go.Proofs.Ytagnlbpndldfeaa.AidRows Go.Proofs.Ytagnlbpndldfeaa.PlanBase

def wins (n : Nat) (X : Nat → Nat → Int) : List S45 := (List.range n).map fun i => ⟨X i 0, X i 1, X i 2⟩
theorem wins_length (n : Nat) (X : Nat → Nat → Int) : (wins n X).length = n := by simp [wins]
theorem wins_row {w : World} {A : Option Addr} {n : Nat} {X : Nat → Nat → Int} (h : Recs w A n [.i64, .i64, .i64] X) (hn : n * 24 ≤ 140737488351232) : Kd.C k45 w A (wins n X).length (wins n X) := by
  refine ⟨rfl, by rw [wins_length]; omega, fun hp => ?_⟩
  rw [wins_length] at hp
  obtain ⟨b, off, hA, _, _⟩ := h 0 0 .i64 hp rfl
  refine ⟨⟨b, off, none⟩, hA, fun j p hj => ?_⟩
  have hjn : j < n := by
    have := (List.getElem?_eq_some_iff.1 hj).1
    rwa [wins_length] at this
  have hp2 : p = ⟨X j 0, X j 1, X j 2⟩ := by
    have := (List.getElem?_eq_some_iff.1 hj).2
    simp [wins] at this
    exact this.symm
  subst hp2
  refine ⟨_, rfl, k45_mk w _, fun i u hu => ?_⟩
  have key : ∀ m k, [IntKind.i64, .i64, .i64][m]? = some k → w.cell? (Addr.add ⟨b, off, none⟩ (j * 3 + m)) = some (.int k (X j m)) := by
    intro m k hk
    obtain ⟨b2, off2, hA2, hc, _⟩ := h j m k hjn hk
    rw [hA] at hA2
    obtain ⟨rfl, rfl⟩ : b = b2 ∧ off = off2 := by simpa using hA2
    rw [Go.WideShapes.add_plain, ← Nat.add_assoc]
    exact hc
  match i, hu with
  | 0, hu => exact (key 0 .i64 rfl).trans (by simpa using hu)
  | 1, hu => exact (key 1 .i64 rfl).trans (by simpa using hu)
  | 2, hu => exact (key 2 .i64 rfl).trans (by simpa using hu)
theorem wins_bound {w : World} {A : Option Addr} {n : Nat} {X : Nat → Nat → Int} (h : Recs w A n [.i64, .i64, .i64] X) : ∀ x ∈ wins n X, (-9223372036854775808 ≤ x.f1 ∧ x.f1 < 9223372036854775808) ∧ (-9223372036854775808 ≤ x.f2 ∧ x.f2 < 9223372036854775808) := by
  intro x hx
  obtain ⟨i, hi, rfl⟩ := List.mem_map.1 hx
  have hi := List.mem_range.1 hi
  obtain ⟨_, _, _, _, h1⟩ := h i 1 .i64 hi rfl
  obtain ⟨_, _, _, _, h2⟩ := h i 2 .i64 hi rfl
  exact ⟨i64_bd h1, i64_bd h2⟩
end Go.Proofs.Ytagnlbpndldfeaa.PlanRec
