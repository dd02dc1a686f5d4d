/- An argument that is a slice of bools, opened as the row of the printed words. No program here. -/
import Derived.Test.YtagnlbpndldfeaaWWords
import Derived.Deep.Grids
namespace Go.Proofs.Ytagnlbpndldfeaa.AidBools
open Go.ChangeShapes Go.WideShapes Go.Proofs.YtagnlbpndldfeaaW.PrintWords
theorem bools_nil (w : World) : Kd.bool.C w none 0 [] := ⟨rfl, Nat.zero_le _, fun h => absurd h (Nat.lt_irrefl _)⟩
theorem bools_row {w : World} {x : Addr} {n : Nat} {B : Nat → Bool} (hn : n ≤ 9223372036854775807) (h : ∀ i, i < n → w.cell? (x.add i) = some (.bool (B i))) : Kd.bool.C w (some x) n ((List.range n).map B) := by
  refine ⟨by simp, hn, fun _ => ⟨x, rfl, fun j p hj => ?_⟩⟩
  obtain ⟨hl, hp⟩ := List.getElem?_eq_some_iff.1 hj
  have hjn : j < n := by simpa using hl
  have hp2 : p = B j := by
    rw [← hp]
    simp
  subst hp2
  refine ⟨[.bool (B j)], rfl, rfl, fun i u hu => ?_⟩
  match i, hu with
  | 0, hu =>
    have e : u = .bool (B j) := by simpa using hu.symm
    subst e
    have := h j hjn
    simpa [Kd.bool, Kd.scalar] using this
theorem open_bools {H : Type} {enc : TypeId × Value → H} {P : Program} {w : World} {base : Nat} {held : Bool} {t e : TypeId} {a : Option Addr} {len cap : Nat} {d : DataW H} {ps : List MemPlace} (ht : P.underlying t = some (.slice e)) (he : P.underlying e = some .bool) (hc : P.cellsOf e = 1)
    (h : DataW.Trod enc P w base (fun _ => true) held t (.slice a len cap) d ps) : ∃ zs, Kd.bool.C w a len zs := by
  obtain ⟨fuel, hf⟩ := h
  rcases Go.Deep.open_bools ht he hc hf with ⟨hcs, _⟩ | ⟨x, l, c, B, hcs, _, hl, hm, _, hcell⟩
  · simp [Value.cells] at hcs
    obtain ⟨rfl, rfl, rfl⟩ := hcs
    exact ⟨[], bools_nil w⟩
  · simp [Value.cells] at hcs
    obtain ⟨rfl, rfl, rfl⟩ := hcs
    refine ⟨_, bools_row ?_ (fun i hi => hcell i (by omega))⟩
    unfold maxLen at hm
    omega
end Go.Proofs.Ytagnlbpndldfeaa.AidBools
