/- An argument that is a slice of records of whole numbers: what is read of it, and how long it may be. No program here. -/
import Derived.Deep.Slices
import Derived.Deep.Fields
import Derived.ChangeSame
import Derived.SizedLaws
import Derived.ChangeSlices
import Derived.Below
namespace Go.Proofs.Ytiinflgoflkomaa.AidRows
open Go.ChangeShapes Go.WideShapes Go.Deep Go.RowKit

/-- A list of records of whole numbers that is read: the number X i j stands in place j of record i. -/
def Recs (w : World) (A : Option Addr) (n : Nat) (Ks : List IntKind) (X : Nat → Nat → Int) : Prop :=
  ∀ i j k, i < n → Ks[j]? = some k → ∃ b off, A = some ⟨b, off, none⟩ ∧ w.cell? ⟨b, off + i * Ks.length + j, none⟩ = some (.int k (X i j)) ∧ (Lit.int k (X i j)).wf = true
section
variable {H : Type} {enc : TypeId × Value → H} {P : Program} {W : World} {base : Nat} {spare : Nat → Bool} {held : Bool}
theorem recs_of {t e : TypeId} {fs : Array Field} {Ks : List IntKind} {a : Option Addr} {len cap : Nat} {d : DataW H} {ps : List MemPlace} (ht : P.underlying t = some (.slice e)) (he : P.underlying e = some (.struct fs))
    (hone : oneCellFields P fs = true) (hC : P.cellsOf e = fs.size) (hk : (fs.toList.map fun f => P.underlying f.type) = Ks.map fun k => some (.int k))
    (h : DataW.Trod enc P W base spare held t (.slice a len cap) d ps) : len ≤ cap ∧ ∃ X, Recs W a len Ks X := by
  obtain ⟨fuel, hf⟩ := h
  rcases open_slice ht hf with ⟨hcs, _⟩ | ⟨ad, l, c, m, n, D, Pl, hcs, _, hl, _, hm, _, hi⟩
  · simp [Value.cells] at hcs
    obtain ⟨rfl, rfl, rfl⟩ := hcs
    exact ⟨Nat.le_refl _, fun _ _ => 0, fun i j k hi _ => absurd hi (by omega)⟩
  · simp [Value.cells] at hcs
    obtain ⟨rfl, rfl, rfl⟩ := hcs
    have hlm : len ≤ m := by
      rw [hm]
      split
      · exact hl
      · exact Nat.le_refl _
    have hsz : fs.size = Ks.length := by
      have := congrArg List.length hk
      simpa using this
    have key : ∀ i j k, i < len → Ks[j]? = some k → ∃ v, W.cell? (ad.add (i * Ks.length + j)) = some (.int k v) ∧ (Lit.int k v).wf = true := by
      intro i j k hi' hj
      obtain ⟨cs', hc, ht'⟩ := hi i (by omega)
      obtain ⟨ys, n', _, _, _, hyl, hg⟩ := DataW.trod_struct he ht'
      obtain ⟨_, hcl, hat⟩ := World.cells?_some hc
      have hjl : j < fs.size := by
        have := (List.getElem?_eq_some_iff.1 hj).1
        omega
      have hfj : fs[j]? = some fs[j] := Array.getElem?_eq_getElem hjl
      have hu : P.underlying fs[j].type = some (.int k) := by
        have h1 := congrArg (fun l => l[j]?) hk
        simp only [List.getElem?_map, hj] at h1
        rw [Array.getElem?_toList, hfj] at h1
        simpa using h1
      obtain ⟨ho, hk1⟩ := hone_of hone j fs[j] hfj
      have h1 := hg j fs[j] hfj
      rw [ho, hk1] at h1
      have hjc : j < cs'.length := by omega
      have hd : (cs'.drop j).take 1 = [cs'[j]] := by
        rw [List.drop_eq_getElem_cons hjc]
        rfl
      rw [hd] at h1
      have hy : ys[j]? = some (ys[j]'(by omega)) := List.getElem?_eq_getElem (by omega)
      obtain ⟨v, hv, _, hw⟩ := DataW.trod_int hu (h1.trans hy)
      have hv1 : cs'[j] = .int k v := by simpa using hv
      have hcell := hat j (by omega)
      rw [add_add, List.getElem?_eq_getElem hjc, hv1, hC, hsz] at hcell
      exact ⟨v, hcell, hw⟩
    refine ⟨hl, fun i j => match W.cell? (ad.add (i * Ks.length + j)) with
      | some (.int _ v) => v
      | _ => 0, fun i j k hi' hj => ?_⟩
    have hj0 : ∃ k0, Ks[0]? = some k0 := ⟨_, List.getElem?_eq_getElem (by have := (List.getElem?_eq_some_iff.1 hj).1; omega)⟩
    obtain ⟨k0, hk0⟩ := hj0
    obtain ⟨v0, h0, _⟩ := key 0 0 k0 (by omega) hk0
    obtain ⟨v, hcell, hw⟩ := key i j k hi' hj
    obtain ⟨b, off, spot⟩ := ad
    have hs : spot = none := by
      have h1 : (⟨b, off, spot⟩ : Addr).add (0 * Ks.length + 0) = ⟨b, off, spot⟩ := by simp [Addr.add]
      rw [h1] at h0
      exact World.cell?_spot h0
    subst hs
    refine ⟨b, off, rfl, ?_, ?_⟩
    · simp only [hcell]
      have h2 := hcell
      rw [Go.WideShapes.add_plain, ← Nat.add_assoc] at h2
      exact h2
    · simp only [hcell]
      exact hw
theorem recs_sized {t e : TypeId} {B : Nat} {a : Option Addr} {len cap : Nat} {d : DataW H} {ps : List MemPlace} {ts : List TypeId} {ds : List (DataW H)} {j : Nat}
    (hsz : (DataW.weightsEach P ts ds).all (· ≤ reachBytes) = true) (ht : ts[j]? = some t) (hd : ds[j]? = some d) (hu : P.underlying t = some (.slice e)) (hB : P.bytesOf e = B)
    (h : DataW.Trod enc P W base spare held t (.slice a len cap) d ps) : len * B ≤ 140737488351232 := by
  obtain ⟨fuel, hf⟩ := h
  rcases open_slice hu hf with ⟨hcs, _⟩ | ⟨ad, l, c, m, n, D, Pl, hcs, _, hl, _, hm, hx, _⟩
  · simp [Value.cells] at hcs
    obtain ⟨rfl, rfl, rfl⟩ := hcs
    simp
  · simp [Value.cells] at hcs
    obtain ⟨rfl, rfl, rfl⟩ := hcs
    obtain ⟨hx, _⟩ := Prod.mk.inj hx
    subst hx
    have z := sized_slice hsz ht hd hu
    rw [hB] at z
    simp only [List.length_map, List.length_range] at z
    refine Nat.le_trans (Nat.mul_le_mul_right _ ?_) z
    omega
theorem Recs.below {w w1 : World} {A : Option Addr} {n : Nat} {Ks : List IntKind} {X : Nat → Nat → Int} (h : Recs w A n Ks X) (hb : Below w.heap.size w w1) : Recs w1 A n Ks X := fun i j k hi hj => by
  obtain ⟨b, off, e, hc, hw⟩ := h i j k hi hj
  exact ⟨b, off, e, (hb.cell (World.block_lt_of_cell? w _ hc)).trans hc, hw⟩
end
end Go.Proofs.Ytiinflgoflkomaa.AidRows
