/- What load.Decode's closures hold, and the first of them (fail). -/
import Derived.Test.YtiinflgoflkomaaLoadGet
import Derived.Test.YtiinflgoflkomaaLoadPg
namespace Go.Proofs.Ytiinflgoflkomaa.LoadD0
open Go.RowKit Go.Proofs.Ytiinflgoflkomaa.PLoadChecks Go.Proofs.YtiinflgoflkomaaW.PrintWords Go.Proofs.YtiinflgoflkomaaW.PrintLast Go.Proofs.YtiinflgoflkomaaW.PrintMore Go.Proofs.Ytiinflgoflkomaa.Aid Go.Proofs.Ytiinflgoflkomaa.LoadF Go.Proofs.Ytiinflgoflkomaa.LoadSame2 Go.Proofs.Ytiinflgoflkomaa.LoadEnc Go.Proofs.Ytiinflgoflkomaa.LoadPg
set_option linter.unusedVariables false
set_option linter.unusedSimpArgs false
structure K5 where
  g1 : Nat
  g4 : Nat
  g5 : Nat
  g6 : Nat
  g7 : Nat
def ptr (g : Nat) : Value := .pointer (some ⟨g, 0, none⟩)
/-- The first fault: a place and an error. -/
def Fl (w : World) : Option (Int × Int) → Option Addr → Prop
  | none, p => p = none
  | some (x, e), p => ∃ gf, p = some ⟨gf, 0, none⟩ ∧ w.heap[gf]? = some (.cells #[.int .i64 x, .iface 28 (.int .i64 e)] 56 (0, 0))
structure Dst (w0 w : World) (k : K5) (A : Option Addr) (c : Nat) (b : List Int) (at' : Nat) (f : Option (Int × Int)) : Prop where
  b1 : w.heap[k.g1]? = some (.cells #[.slice A b.length c] 27 (0, 0))
  b4 : w.heap[k.g4]? = some (.cells #[.int .i64 (at' : Int)] 3 (0, 0))
  b5 : ∃ p, w.heap[k.g5]? = some (.cells #[.pointer p] 54 (0, 0)) ∧ Fl w f p
  b6 : w.heap[k.g6]? = some (.cells #[.func (.func 27) #[] #[ptr k.g5]] 57 (0, 0))
  b7 : w.heap[k.g7]? = some (.cells #[.func (.func 28) #[] #[ptr k.g5, ptr k.g1, ptr k.g4, ptr k.g6]] 58 (0, 0))
  be : Below w0.heap.size w0 w
  n4 : w0.heap.size ≤ k.g4
  n5 : w0.heap.size ≤ k.g5
  le : at' ≤ b.length
/-- Whatever lay there stays, but the place and the fault. -/
def RestK (k : K5) (w w' : World) : Prop := w.heap.size ≤ w'.heap.size ∧ ∀ j o, w.heap[j]? = some o → j ≠ k.g4 → j ≠ k.g5 → w'.heap[j]? = some o
section
variable {w0 w w' w2 : World} {k : K5} {A : Option Addr} {c : Nat} {b : List Int} {at' : Nat} {f : Option (Int × Int)}
theorem RestK.refl : RestK k w w := ⟨Nat.le_refl _, fun _ _ h _ _ => h⟩
theorem RestK.trans (h : RestK k w w') (h2 : RestK k w' w2) : RestK k w w2 := ⟨Nat.le_trans h.1 h2.1, fun j o hj h4 h5 => h2.2 j o (h.2 j o hj h4 h5) h4 h5⟩
theorem RestK.below (h : Below w.heap.size w w') : RestK k w w' := ⟨h.size, fun j o hj _ _ => blk_below hj h⟩
theorem RestK.cells (h : RestK k w w') {j t : Nat} {cs : Array Value} (hj : w.heap[j]? = some (.cells cs t (0, 0))) (h4 : j ≠ k.g4) (ht : t ≠ 54) {p : Option Addr} (h5 : w.heap[k.g5]? = some (.cells #[.pointer p] 54 (0, 0))) : w'.heap[j]? = some (.cells cs t (0, 0)) :=
  h.2 j _ hj h4 (blk_ne hj h5 ht)
theorem Fl.below {p : Option Addr} (h : Fl w f p) (hb : Below w.heap.size w w') : Fl w' f p := by
  match f, h with
  | none, h => exact h
  | some (x, e), ⟨gf, h1, h2⟩ => exact ⟨gf, h1, blk_below h2 hb⟩
theorem Dst.below (h : Dst w0 w k A c b at' f) (hb : Below w.heap.size w w') : Dst w0 w' k A c b at' f :=
  ⟨blk_below h.b1 hb, blk_below h.b4 hb, by obtain ⟨p, h1, h2⟩ := h.b5; exact ⟨p, blk_below h1 hb, h2.below hb⟩, blk_below h.b6 hb, blk_below h.b7 hb, below_then h.be h.be.size hb, h.n4, h.n5, h.le⟩
end
def failS (f : Option (Int × Int)) (x e : Int) : Option (Int × Int) := match f with
  | none => some (x, e)
  | some q => some q
set_option maxHeartbeats 1600000 in
set_option maxRecDepth 100000 in
theorem fail_calls (w0 w : World) (k : K5) (A : Option Addr) (c : Nat) (b : List Int) (at' : Nat) (f : Option (Int × Int)) (x e : Int) (hD : Aside0 (Dst w0 w k A c b at' f)) :
    Calls Try.prog 27 #[.int .i64 x, .int .i64 e, ptr k.g5] w fun e' w' => e' = .returned (.tuple #[]) ∧ Dst w0 w' k A c b at' (failS f x e) ∧ RestK k w w' := by
  have hcn : Try.prog.concrete 28 = true := by kernel_rfl
  obtain ⟨p, h5, hf⟩ := hD.out.b5
  have H5 := Aside0.mk h5
  have c5 : w.cell? ⟨k.g5, 0, none⟩ = some (.pointer p) := (blk_cell h5 0).trans rfl
  have f5 := blk_frozen h5 0
  clear h5
  unfold ptr
  obtain ⟨g1, g4, g5, g6, g7⟩ := k
  simp only at c5 f5 ⊢
  cases f with
  | some q =>
    obtain ⟨x0, e0⟩ := q
    obtain ⟨gf, rfl, hgf⟩ := hf
    clear hgf
    go_enter Try.func27, Try.ntmps27
    go_wp2_with fail
    go_end0
    exact ⟨rfl, hD.out, RestK.refl⟩
  | none =>
    have hp : p = none := hf
    subst hp
    clear hf
    go_enter Try.func27, Try.ntmps27
    go_wp2_with (first | ((with_reducible refine gate_dst (N := 11) rfl ?_); refine box_event ?hg (N := 11) ?hd (cs := #[.int .i64 x, .iface 28 (.int .i64 e)]) (t := 56) ?hr ?_; (case hd => rfl); (case hg => rfl); (case hr => first | (go_simp; done) | (go_simp; rfl)); intro gf hg wa hbox hb; have HD := Aside0.mk (hD.out.below hb); have H5a := Aside0.mk (blk_below H5.out hb); have GF := Aside0.mk (show g5 ≠ gf by rw [hg]; have := blk_lt H5.out; simp only at this; omega); have BF := Aside0.mk hbox; have HB := Aside0.mk hb; clear hg hbox hb c5 f5; have c5 : wa.cell? ⟨g5, 0, none⟩ = some (.pointer none) := (blk_cell H5a.out 0).trans rfl; have f5 := blk_frozen H5a.out 0; simp only at f5))
    go_end0
    have far : ∀ {j t : Nat} {cs : Array Value}, wa.heap[j]? = some (.cells cs t (0, 0)) → t ≠ 54 → (wa.setCell ⟨g5, 0, none⟩ (.pointer (some ⟨gf, 0, none⟩))).heap[j]? = some (.cells cs t (0, 0)) := fun hj ht => blk_far hj (blk_ne hj H5a.out ht) _
    have hd := HD.out
    refine ⟨rfl, ⟨far hd.b1 (by decide), far hd.b4 (by decide), ⟨_, blk_put H5a.out 0 _ rfl, gf, rfl, far BF.out (by decide)⟩, far hd.b6 (by decide), far hd.b7 (by decide), hd.be.setCell hd.n5 _, hd.n4, hd.n5, hd.le⟩, ?_⟩
    exact ⟨by simpa [World.setCell] using HB.out.size, fun j o hj h4 hj5 => (Below.heap_setCell wa ⟨g5, 0, none⟩ _ j hj5).trans (blk_below hj HB.out)⟩
end Go.Proofs.Ytiinflgoflkomaa.LoadD0
