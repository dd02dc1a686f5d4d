/- A clone is one of its own. -/
import Derived.Test.YtagnlbpndldfeaaSPlaysC
namespace Go.Proofs.Ytagnlbpndldfeaa.SPlaysD
open Go.RowKit Go.Proofs.Ytagnlbpndldfeaa.PSchedPlays Go.Proofs.YtagnlbpndldfeaaW.PrintWords Go.Proofs.YtagnlbpndldfeaaW.PrintLast Go.Proofs.YtagnlbpndldfeaaW.PrintMore Go.Proofs.Ytagnlbpndldfeaa.Aid Go.Proofs.Ytagnlbpndldfeaa.PlanBase Go.Proofs.Ytagnlbpndldfeaa.SPlanAt Go.Proofs.Ytagnlbpndldfeaa.SPlanStart Go.Proofs.Ytagnlbpndldfeaa.SPlanCalls Go.Proofs.Ytagnlbpndldfeaa.SPlanBudget Go.Proofs.Ytagnlbpndldfeaa.SBase Go.Proofs.Ytagnlbpndldfeaa.SState Go.Proofs.Ytagnlbpndldfeaa.SLeave Go.Proofs.Ytagnlbpndldfeaa.SEnter Go.Proofs.Ytagnlbpndldfeaa.SCycPure Go.Proofs.Ytagnlbpndldfeaa.SLive Go.Proofs.Ytagnlbpndldfeaa.SPlaysR Go.Proofs.Ytagnlbpndldfeaa.SPlaysB
set_option linter.unusedVariables false
set_option linter.unusedSimpArgs false
variable {w : World}
theorem clock_clone (g : Nat) (t : Int) (b : Bool) (a : Int) (w : World) (hC : Clk w g t b a) : Calls Try.prog 40 #[.pointer (some ⟨g, 0, none⟩)] w fun e w' => ∃ g' : Nat, e = .returned (.pointer (some ⟨g', 0, none⟩)) ∧ w.heap.size ≤ g' ∧ Clk w' g' t b a ∧ Below w.heap.size w w' := by
  have c0 : w.cell? ⟨g, 0, none⟩ = some (.int .i64 t) := (blk_cell hC 0).trans rfl
  have c1 : w.cell? ⟨g, 1, none⟩ = some (.bool b) := (blk_cell hC 1).trans rfl
  have c2 : w.cell? ⟨g, 2, none⟩ = some (.int .i64 a) := (blk_cell hC 2).trans rfl
  clear hC
  go_enter Try.func40, Try.ntmps40
  go_wp2_with fail
  go_ret
  exact ⟨_, rfl, Nat.le_refl _, by simpa [Clk] using heap_alloc_new w _, below_alloc (Below.refl _ _) _⟩
theorem pic_clone (g : Nat) (q : Int) (w : World) (hC : Ctl w g q) : Calls Try.prog 41 #[.pointer (some ⟨g, 0, none⟩)] w fun e w' => ∃ g' : Nat, e = .returned (.pointer (some ⟨g', 0, none⟩)) ∧ w.heap.size ≤ g' ∧ Ctl w' g' q ∧ Below w.heap.size w w' := by
  have c0 : w.cell? ⟨g, 0, none⟩ = some (.int .i64 1) := (blk_cell hC 0).trans rfl
  have c1 : w.cell? ⟨g, 1, none⟩ = some (.int .u32 q) := (blk_cell hC 1).trans rfl
  have c2 : w.cell? ⟨g, 2, none⟩ = some (.int .u32 0) := (blk_cell hC 2).trans rfl
  clear hC
  go_enter Try.func41, Try.ntmps41
  go_wp2_with fail
  go_ret
  exact ⟨_, rfl, Nat.le_refl _, by simpa [Ctl] using heap_alloc_new w _, below_alloc (Below.refl _ _) _⟩
/-- The clone's own block while it is made. -/
def NB (V : World) (g : Nat) (x0 x1 : Value) (gq : Nat) (G : Int) (ins : Bool) (win maj last : Int) : Prop := V.heap[g]? = some (.cells #[x0, x1, .pointer (some ⟨gq, 0, none⟩), .int .i64 G, .bool ins, .int .i64 win, .int .i64 maj, .int .i64 last] 43 (0, 0))
theorem blk_lt' {V : World} {g : Nat} {o : Obj} (h : V.heap[g]? = some o) : g < V.heap.size := by
  rcases Nat.lt_or_ge g V.heap.size with h' | h'
  · exact h'
  · simp [Array.getElem?_eq_none h'] at h
theorem NB.drew {V : World} {g : Nat} {x0 x1 : Value} {gq : Nat} {G : Int} {ins : Bool} {win maj last : Int} (h : NB V g x0 x1 gq G ins win maj last) : NB V.drew g x0 x1 gq G ins win maj last := h
theorem NB.set0 {V : World} {g : Nat} {x0 x1 v : Value} {gq : Nat} {G : Int} {ins : Bool} {win maj last : Int} (h : NB V g x0 x1 gq G ins win maj last) : NB (V.setCell ⟨g, 0, none⟩ v) g v x1 gq G ins win maj last := by
  have := blk_set h 0 v
  simpa [NB] using this
theorem NB.set1 {V : World} {g : Nat} {x0 x1 v : Value} {gq : Nat} {G : Int} {ins : Bool} {win maj last : Int} (h : NB V g x0 x1 gq G ins win maj last) : NB (V.setCell ⟨g, 1, none⟩ v) g x0 v gq G ins win maj last := by
  have := blk_set h 1 v
  simpa [NB] using this
theorem NB.below {V V' : World} {g : Nat} {x0 x1 : Value} {gq : Nat} {G : Int} {ins : Bool} {win maj last : Int} (h : NB V g x0 x1 gq G ins win maj last) (hB : Below V.heap.size V V') : NB V' g x0 x1 gq G ins win maj last := (hB.block g (blk_lt h)).trans h
theorem NB.drewN {V : World} {g : Nat} {x0 x1 : Value} {gq : Nat} {G : Int} {ins : Bool} {win maj last : Int} (h : NB V g x0 x1 gq G ins win maj last) (m : Nat) : NB (V.drewN m) g x0 x1 gq G ins win maj last := h
/-- What stood stands. -/
def KP (V V' : World) : Prop := ∀ (g : Nat) (o : Obj), V.heap[g]? = some o → V'.heap[g]? = some o
theorem kp_of {V V' : World} (h : Below V.heap.size V V') : KP V V' := fun g o hg => (h.block g (blk_lt' hg)).trans hg
theorem NB.keep {V V' : World} {g : Nat} {x0 x1 : Value} {gq : Nat} {G : Int} {ins : Bool} {win maj last : Int} (h : NB V g x0 x1 gq G ins win maj last) (k : KP V V') : NB V' g x0 x1 gq G ins win maj last := k _ _ h
theorem clk_keep {V V' : World} {g : Nat} {t a : Int} {b : Bool} (h : Clk V g t b a) (k : KP V V') : Clk V' g t b a := k _ _ h
theorem ctl_keep {V V' : World} {g : Nat} {q : Int} (h : Ctl V g q) (k : KP V V') : Ctl V' g q := k _ _ h
theorem clk_set {V : World} {g g' j : Nat} {v : Value} {t a : Int} {b : Bool} (h : Clk V g t b a) (hn : g ≠ g') : Clk (V.setCell ⟨g', j, none⟩ v) g t b a := (Below.heap_setCell _ _ _ _ hn).trans h
theorem ctl_set {V : World} {g g' j : Nat} {v : Value} {q : Int} (h : Ctl V g q) (hn : g ≠ g') : Ctl (V.setCell ⟨g', j, none⟩ v) g q := (Below.heap_setCell _ _ _ _ hn).trans h
theorem clk_below {V V' : World} {g : Nat} {t a : Int} {b : Bool} (h : Clk V g t b a) (hB : Below V.heap.size V V') : Clk V' g t b a := (hB.block g (blk_lt h)).trans h
theorem ctl_below {V V' : World} {g : Nat} {q : Int} (h : Ctl V g q) (hB : Below V.heap.size V V') : Ctl V' g q := (hB.block g (blk_lt h)).trans h
theorem clk_drew {V : World} {g : Nat} {t a : Int} {b : Bool} (h : Clk V g t b a) : Clk V.drew g t b a := h
theorem ctl_drew {V : World} {g : Nat} {q : Int} (h : Ctl V g q) : Ctl V.drew g q := h
theorem own_of {V : World} {gs gc gp gq lo hi : Nat} {G : Int} {ins : Bool} {win maj last : Int} (h : NB V gs (.pointer (some ⟨gc, 0, none⟩)) (.pointer (some ⟨gp, 0, none⟩)) gq G ins win maj last) : Own V ⟨gs, gc, gp, gq, lo, hi⟩ G ins win maj last := h
theorem clk_drewN {V : World} {g : Nat} {t a : Int} {b : Bool} (h : Clk V g t b a) (m : Nat) : Clk (V.drewN m) g t b a := h
theorem ctl_drewN {V : World} {g : Nat} {q : Int} (h : Ctl V g q) (m : Nat) : Ctl (V.drewN m) g q := h
theorem clock_cloneN (g : Nat) (t : Int) (b : Bool) (a : Int) {gn : Nat} {x0 x1 : Value} {gq : Nat} {G : Int} {ins : Bool} {win maj last : Int} (w : World) (hC : Clk w g t b a) (hN : NB w gn x0 x1 gq G ins win maj last) : Calls Try.prog 40 #[.pointer (some ⟨g, 0, none⟩)] w fun e w' => ∃ g' : Nat, e = .returned (.pointer (some ⟨g', 0, none⟩)) ∧ gn < g' ∧ Clk w' g' t b a ∧ Below w.heap.size w w' ∧ NB w' gn x0 x1 gq G ins win maj last ∧ KP w w' := by
  refine (clock_clone g t b a w hC).mono ?_
  rintro e w' ⟨g', rfl, hg, hc, hB⟩
  exact ⟨g', rfl, Nat.lt_of_lt_of_le (blk_lt hN) hg, hc, hB, hN.below hB, kp_of hB⟩
theorem pic_cloneN (g : Nat) (q : Int) {gn : Nat} {x0 x1 : Value} {gq : Nat} {G : Int} {ins : Bool} {win maj last : Int} (w : World) (hC : Ctl w g q) (hN : NB w gn x0 x1 gq G ins win maj last) : Calls Try.prog 41 #[.pointer (some ⟨g, 0, none⟩)] w fun e w' => ∃ g' : Nat, e = .returned (.pointer (some ⟨g', 0, none⟩)) ∧ gn < g' ∧ Ctl w' g' q ∧ Below w.heap.size w w' ∧ NB w' gn x0 x1 gq G ins win maj last ∧ KP w w' := by
  refine (pic_clone g q w hC).mono ?_
  rintro e w' ⟨g', rfl, hg, hc, hB⟩
  exact ⟨g', rfl, Nat.lt_of_lt_of_le (blk_lt hN) hg, hc, hB, hN.below hB, kp_of hB⟩
variable {p : Pl} {M G : Int} {l : List S45} {t : Int} {b : Bool} {a : Int} {o ins : Bool} {win maj last : Int}
set_option maxHeartbeats 3200000 in
set_option maxRecDepth 100000 in
theorem sclone (h : Raw w p M G l t b a o ins win maj last) : Calls Try.prog 21 #[.pointer (some ⟨p.gs, 0, none⟩)] w fun e w' => ∃ p' : Pl, e = .returned (.pointer (some ⟨p'.gs, 0, none⟩)) ∧ (p'.lo = p.lo ∧ p'.hi = p.hi ∧ w.heap.size ≤ p'.gs ∧ w.heap.size ≤ p'.gc ∧ w.heap.size ≤ p'.gp) ∧ Raw w' p' M G l t b a o ins win maj last ∧ Below w.heap.size w w' := by
  have c0 : w.cell? ⟨p.gs, 0, none⟩ = some (.pointer (some ⟨p.gc, 0, none⟩)) := (blk_cell h.1 0).trans rfl
  have c1 : w.cell? ⟨p.gs, 1, none⟩ = some (.pointer (some ⟨p.gp, 0, none⟩)) := (blk_cell h.1 1).trans rfl
  have c2 : w.cell? ⟨p.gs, 2, none⟩ = some (.pointer (some ⟨p.gq, 0, none⟩)) := (blk_cell h.1 2).trans rfl
  have c3 : w.cell? ⟨p.gs, 3, none⟩ = some (.int .i64 G) := (blk_cell h.1 3).trans rfl
  have c4 : w.cell? ⟨p.gs, 4, none⟩ = some (.bool ins) := (blk_cell h.1 4).trans rfl
  have c5 : w.cell? ⟨p.gs, 5, none⟩ = some (.int .i64 win) := (blk_cell h.1 5).trans rfl
  have c6 : w.cell? ⟨p.gs, 6, none⟩ = some (.int .i64 maj) := (blk_cell h.1 6).trans rfl
  have c7 : w.cell? ⟨p.gs, 7, none⟩ = some (.int .i64 last) := (blk_cell h.1 7).trans rfl
  have hlt := blk_lt h.1
  have H := Aside0.mk h
  clear h
  go_enter Try.func21, Try.ntmps21
  go_upto_region 2 with fail
  have HB1 : Aside0 (Below w.heap.size w (w.alloc (Obj.cells #[Value.pointer (some ⟨p.gc, 0, none⟩), Value.pointer (some ⟨p.gp, 0, none⟩), Value.pointer (some ⟨p.gq, 0, none⟩), Value.int IntKind.i64 G, Value.bool ins, Value.int IntKind.i64 win, Value.int IntKind.i64 maj, Value.int IntKind.i64 last] 43))) := ⟨below_alloc (Below.refl _ _) _⟩
  have HG1 : Aside0 ((w.alloc (Obj.cells #[Value.pointer (some ⟨p.gc, 0, none⟩), Value.pointer (some ⟨p.gp, 0, none⟩), Value.pointer (some ⟨p.gq, 0, none⟩), Value.int IntKind.i64 G, Value.bool ins, Value.int IntKind.i64 win, Value.int IntKind.i64 maj, Value.int IntKind.i64 last] 43)).heap[w.heap.size]? = some (.cells #[Value.pointer (some ⟨p.gc, 0, none⟩), Value.pointer (some ⟨p.gp, 0, none⟩), Value.pointer (some ⟨p.gq, 0, none⟩), Value.int IntKind.i64 G, Value.bool ins, Value.int IntKind.i64 win, Value.int IntKind.i64 maj, Value.int IntKind.i64 last] 43 (0, 0))) := ⟨blk_new _ _⟩
  have hne : p.gs ≠ w.heap.size := by omega
  clear c0 c1 c2 c3 c4 c5 c6 c7
  generalize w.alloc (Obj.cells #[Value.pointer (some ⟨p.gc, 0, none⟩), Value.pointer (some ⟨p.gp, 0, none⟩), Value.pointer (some ⟨p.gq, 0, none⟩), Value.int IntKind.i64 G, Value.bool ins, Value.int IntKind.i64 win, Value.int IntKind.i64 maj, Value.int IntKind.i64 last] 43) = w1 at *
  have H1 := Aside0.mk (H.out.below HB1.out)
  have c0 : w1.cell? ⟨p.gs, 0, none⟩ = some (.pointer (some ⟨p.gc, 0, none⟩)) := (blk_cell H1.out.1 0).trans rfl
  have c1 : w1.cell? ⟨p.gs, 1, none⟩ = some (.pointer (some ⟨p.gp, 0, none⟩)) := (blk_cell H1.out.1 1).trans rfl
  have HN1 : Aside0 (NB w1 w.heap.size (.pointer (some ⟨p.gc, 0, none⟩)) (.pointer (some ⟨p.gp, 0, none⟩)) p.gq G ins win maj last) := ⟨HG1.out⟩
  have n0 : w1.cell? ⟨w.heap.size, 0, none⟩ = some (.pointer (some ⟨p.gc, 0, none⟩)) := (blk_cell HG1.out 0).trans rfl
  have n1 : w1.cell? ⟨w.heap.size, 1, none⟩ = some (.pointer (some ⟨p.gp, 0, none⟩)) := (blk_cell HG1.out 1).trans rfl
  have f0 := blk_frozen HG1.out 0
  have f1 := blk_frozen HG1.out 1
  go_region_with (first | (go_at_call 40; refine (clock_cloneN p.gc t b a (gn := w.heap.size) _ (H.out.below (by repeat (with_reducible first | exact HBc.out | exact HBp.out | exact HB1.out | refine below_set ?_ (Nat.le_refl _) | apply below_drew | apply pw_below_drewN | apply below_alloc))).2.1 (by repeat (with_reducible first | exact HN1.out | exact HNgc.out | exact HNgp.out | apply NB.set0 | apply NB.set1 | apply NB.drew | apply NB.drewN))).mono ?_; rintro e wc ⟨gc, rfl, hggc, hCgc, hBgc, hNgc, hKgc⟩; have HBc := Aside0.mk (below_step (by repeat (with_reducible first | exact HBc.out | exact HBp.out | exact HB1.out | refine below_set ?_ (Nat.le_refl _) | apply below_drew | apply pw_below_drewN | apply below_alloc)) hBgc); have HCgc := Aside0.mk hCgc; have HKgc := Aside0.mk hKgc; have HGgc := Aside0.mk hggc; have HNgc := Aside0.mk hNgc; have HRgc := Aside0.mk (H.out.below HBc.out); have c0 := (blk_cell HRgc.out.1 0).trans (show _ = some (Value.pointer (some ⟨p.gc, 0, none⟩)) from rfl); have c1 := (blk_cell HRgc.out.1 1).trans (show _ = some (Value.pointer (some ⟨p.gp, 0, none⟩)) from rfl); have n0 := blk_cell hNgc 0; have n1 := blk_cell hNgc 1; simp only [List.getElem?_toArray, List.getElem?_cons_zero, List.getElem?_cons_succ] at n0 n1; have f0 := blk_frozen hNgc 0; have f1 := blk_frozen hNgc 1; clear hCgc hBgc hggc hNgc hKgc) | (go_at_call 41; refine (pic_cloneN p.gp (bit o) (gn := w.heap.size) _ (H.out.below (by repeat (with_reducible first | exact HBc.out | exact HBp.out | exact HB1.out | refine below_set ?_ (Nat.le_refl _) | apply below_drew | apply pw_below_drewN | apply below_alloc))).2.2.1 (by repeat (with_reducible first | exact HN1.out | exact HNgc.out | exact HNgp.out | apply NB.set0 | apply NB.set1 | apply NB.drew | apply NB.drewN))).mono ?_; rintro e wp ⟨gp, rfl, hggp, hCgp, hBgp, hNgp, hKgp⟩; have HBp := Aside0.mk (below_step (by repeat (with_reducible first | exact HBc.out | exact HBp.out | exact HB1.out | refine below_set ?_ (Nat.le_refl _) | apply below_drew | apply pw_below_drewN | apply below_alloc)) hBgp); have HCgp := Aside0.mk hCgp; have HKgp := Aside0.mk hKgp; have HGgp := Aside0.mk hggp; have HNgp := Aside0.mk hNgp; have HRgp := Aside0.mk (H.out.below HBp.out); have c0 := (blk_cell HRgp.out.1 0).trans (show _ = some (Value.pointer (some ⟨p.gc, 0, none⟩)) from rfl); have c1 := (blk_cell HRgp.out.1 1).trans (show _ = some (Value.pointer (some ⟨p.gp, 0, none⟩)) from rfl); have n0 := blk_cell hNgp 0; have n1 := blk_cell hNgp 1; simp only [List.getElem?_toArray, List.getElem?_cons_zero, List.getElem?_cons_succ] at n0 n1; have f0 := blk_frozen hNgp 0; have f1 := blk_frozen hNgp 1; clear hCgp hBgp hggp hNgp hKgp))
  all_goals
    go_wp2_with fail
    go_ret
    have hhi := H.out.2.2.2.1.1
    have h1 := HGgc.out
    have h2 := HGgp.out
    exact ⟨⟨w.heap.size, gc, gp, p.gq, p.lo, p.hi⟩, rfl, ⟨rfl, rfl, Nat.le_refl _, Nat.le_of_lt h1, Nat.le_of_lt h2⟩, ⟨own_of (by repeat (with_reducible first | exact HN1.out | exact HNgc.out | exact HNgp.out | apply NB.set0 | apply NB.set1 | apply NB.drew | apply NB.drewN)), (by repeat (with_reducible first | exact HCgc.out | refine clk_keep ?_ HKgc.out | refine clk_keep ?_ HKgp.out | refine clk_set ?_ (Nat.ne_of_gt HGgc.out) | apply clk_drew | apply clk_drewN)), (by repeat (with_reducible first | exact HCgp.out | refine ctl_keep ?_ HKgc.out | refine ctl_keep ?_ HKgp.out | refine ctl_set ?_ (Nat.ne_of_gt HGgp.out) | apply ctl_drew | apply ctl_drewN)), (H.out.below (by repeat (with_reducible first | exact HBc.out | exact HBp.out | exact HB1.out | refine below_set ?_ (Nat.le_refl _) | apply below_drew | apply pw_below_drewN | apply below_alloc))).2.2.2.1, hhi, Nat.le_trans hhi (Nat.le_of_lt h1), Nat.le_trans hhi (Nat.le_of_lt h2)⟩, (by repeat (with_reducible first | exact HBc.out | exact HBp.out | exact HB1.out | refine below_set ?_ (Nat.le_refl _) | apply below_drew | apply pw_below_drewN | apply below_alloc))⟩
end Go.Proofs.Ytagnlbpndldfeaa.SPlaysD
