/- The machine's time tells what the chapter says, act by act: the walk of the law. -/
import Derived.Test.YtagnlbpndldfeaaSPlaysD
import Derived.Test.YtagnlbpndldfeaaSNew
import Derived.Test.YtagnlbpndldfeaaPlanRec
import Derived.Test.YtagnlbpndldfeaaAidRows
namespace Go.Proofs.Ytagnlbpndldfeaa.SLawPlays
open Go.RowKit Go.Proofs.Ytagnlbpndldfeaa.PSchedPlays Go.Proofs.YtagnlbpndldfeaaW.PrintWords Go.Proofs.YtagnlbpndldfeaaW.PrintLast Go.Proofs.YtagnlbpndldfeaaW.PrintMore Go.Proofs.Ytagnlbpndldfeaa.Aid Go.Proofs.Ytagnlbpndldfeaa.AidRows Go.Proofs.Ytagnlbpndldfeaa.PlanBase Go.Proofs.Ytagnlbpndldfeaa.SPlanAt Go.Proofs.Ytagnlbpndldfeaa.SPlanStart Go.Proofs.Ytagnlbpndldfeaa.SPlanCalls Go.Proofs.Ytagnlbpndldfeaa.SPlanBudget Go.Proofs.Ytagnlbpndldfeaa.SBase Go.Proofs.Ytagnlbpndldfeaa.SState Go.Proofs.Ytagnlbpndldfeaa.SNew Go.Proofs.Ytagnlbpndldfeaa.SLeave Go.Proofs.Ytagnlbpndldfeaa.SEnter Go.Proofs.Ytagnlbpndldfeaa.SCycPure Go.Proofs.Ytagnlbpndldfeaa.SLive Go.Proofs.Ytagnlbpndldfeaa.SPlaysR Go.Proofs.Ytagnlbpndldfeaa.SPlaysB Go.Proofs.Ytagnlbpndldfeaa.SPlaysC Go.Proofs.Ytagnlbpndldfeaa.SPlaysD
set_option linter.unusedVariables false
set_option linter.unusedSimpArgs false
/-- The copied row while it is overwritten. -/
def RowOk (A2 : Option Addr) (n : Nat) (wr : World) : Prop := ∀ ad, A2 = some ad → ∃ b, ad = ⟨b, 0, none⟩ ∧ ∃ cur, wr.heap[b]? = some (.cells cur 45 (0, 0)) ∧ n * 3 ≤ cur.size
theorem RowOk.set {A2 : Option Addr} {n b j : Nat} {wr : World} {v : Value} (h : RowOk A2 n wr) (hA : A2 = some ⟨b, 0, none⟩) : RowOk A2 n (wr.setCell ⟨b, j, none⟩ v) := by
  intro ad had
  obtain ⟨b', rfl, cur, hc, hs⟩ := h ad had
  rw [hA] at had
  injection had with had
  injection had with hb _ _
  subst hb
  exact ⟨b, rfl, _, blk_set hc j v, by rw [Array.size_setIfInBounds]; exact hs⟩
theorem RowOk.cell {A2 : Option Addr} {n b m : Nat} {wr : World} (h : RowOk A2 n wr) (hA : A2 = some ⟨b, 0, none⟩) (hm : m < n * 3) : (∃ v, wr.cell? ⟨b, m, none⟩ = some v) ∧ wr.frozen? ⟨b, m, none⟩ = false := by
  obtain ⟨b', e, cur, hc, hs⟩ := h _ hA
  injection e with e _ _
  subst e
  refine ⟨⟨cur[m]'(by omega), ?_⟩, blk_frozen hc m⟩
  rw [blk_cell hc m]
  exact Array.getElem?_eq_getElem (by omega)
-- apart
/-- They share nothing, and lie behind what was there. -/
structure Sep (w : World) (p : Pl) (r : RP) : Prop where
  a : w.heap.size ≤ p.lo
  b : p.lo ≤ p.hi
  c : w.heap.size ≤ r.lo
  d : r.lo ≤ r.hi
  gs : p.gs < r.lo ∨ r.hi ≤ p.gs
  gc : p.gc < r.lo ∨ r.hi ≤ p.gc
  gp : p.gp < r.lo ∨ r.hi ≤ p.gp
  g : r.g < p.lo ∨ p.hi ≤ r.g
def Q.raw (w : World) (p : Pl) (M G : Int) (l : List S45) (q : Q) : Prop := ∃ t b a o ins win maj last, Raw w p M G l t b a o ins win maj last
theorem SS.raw {w : World} {p : Pl} {M G : Int} {l : List S45} {q : Q} (h : SS w p M G l q) : Q.raw w p M G l q := by
  cases q with
  | o last => exact ⟨_, _, _, _, _, _, _, _, h⟩
  | i j n s y B bg u last => exact ⟨_, _, _, _, _, _, _, _, h⟩
theorem RR.raw {w : World} {r : RP} {M G : Int} {l : List S45} {q : Q} (h : RR w r M G l q) : ∃ T W J U La, RRaw w r M G l T W J U La := by
  cases q with
  | o last => exact ⟨_, _, _, _, _, h⟩
  | i j n s y B bg u last => exact ⟨_, _, _, _, _, h⟩
theorem SS.moves {w w' : World} {p : Pl} {M G : Int} {l : List S45} {q : Q} {S : Nat → Prop} (h : SS w p M G l q) (hm : Moves w w' S) (h1 : ¬ S p.gs) (h2 : ¬ S p.gc) (h3 : ¬ S p.gp) (hs : ∀ k, S k → k < p.lo ∨ p.hi ≤ k) : SS w' p M G l q := by
  cases q with
  | o last => exact Raw.moves h hm h1 h2 h3 hs
  | i j n s y B bg u last => exact Raw.moves h hm h1 h2 h3 hs
theorem RR.moves {w w' : World} {r : RP} {M G : Int} {l : List S45} {q : Q} {S : Nat → Prop} (h : RR w r M G l q) (hm : Moves w w' S) (h1 : ¬ S r.g) (hs : ∀ k, S k → k < r.lo ∨ r.hi ≤ k) : RR w' r M G l q := by
  cases q with
  | o last => exact RRaw.moves h hm h1 hs
  | i j n s y B bg u last => exact RRaw.moves h hm h1 hs
theorem SS.drew {w : World} {p : Pl} {M G : Int} {l : List S45} {q : Q} (h : SS w p M G l q) : SS w.drew p M G l q := h.below (below_drew (Below.refl _ _))
theorem RR.drew {w : World} {r : RP} {M G : Int} {l : List S45} {q : Q} (h : RR w r M G l q) : RR w.drew r M G l q := h.below (below_drew (Below.refl _ _))
theorem SS.drewN {w : World} {p : Pl} {M G : Int} {l : List S45} {q : Q} (h : SS w p M G l q) (m : Nat) : SS (w.drewN m) p M G l q := h.below (pw_below_drewN (Below.refl _ _) m)
theorem RR.drewN {w : World} {r : RP} {M G : Int} {l : List S45} {q : Q} (h : RR w r M G l q) (m : Nat) : RR (w.drewN m) r M G l q := h.below (pw_below_drewN (Below.refl _ _) m)
theorem keep_R {w0 w w' : World} {p : Pl} {r : RP} {M G : Int} {l : List S45} {q q2 : Q} (s : Sep w0 p r) (h : RR w r M G l q) (h2 : SS w p M G l q2) (hm : Moves w w' (S3 p)) : RR w' r M G l q := by
  obtain ⟨T, W, J, U, La, hr⟩ := RR.raw h
  obtain ⟨t, b, a, o, ins, win, maj, last, hs⟩ := SS.raw h2
  refine RR.moves h hm (hs.far hr.1 (by decide) (by decide) (by decide)) ?_
  rintro k (rfl | rfl | rfl)
  · exact s.gs
  · exact s.gc
  · exact s.gp
theorem keep_S {w0 w w' : World} {p : Pl} {r : RP} {M G : Int} {l : List S45} {q q2 : Q} (s : Sep w0 p r) (h : SS w p M G l q) (h2 : RR w r M G l q2) (hm : Moves w w' (fun k => k = r.g)) : SS w' p M G l q := by
  obtain ⟨T, W, J, U, La, hr⟩ := RR.raw h2
  obtain ⟨t, b, a, o, ins, win, maj, last, hs⟩ := SS.raw h
  refine SS.moves h hm (ne_types hs.1 hr.1 (by decide)) (ne_types hs.2.1 hr.1 (by decide)) (ne_types hs.2.2.1 hr.1 (by decide)) ?_
  rintro k rfl
  exact s.g
theorem new_S {w0 w w' : World} {p : Pl} {r : RP} {M G : Int} {l : List S45} {q : Q} (s : Sep w0 p r) (h : SS w p M G l q) (hb : Below w0.heap.size w0 w) (hm : Moves w w' (S3 p)) : Below w0.heap.size w0 w' := by
  obtain ⟨t, b, a, o, ins, win, maj, last, hs⟩ := SS.raw h
  have h1 := hs.2.2.2.2
  have := s.a
  have := s.b
  refine hm.to_below hb (fun k hk => ?_)
  rcases hk with rfl | rfl | rfl <;> omega
theorem new_R {w0 w w' : World} {p : Pl} {r : RP} {M G : Int} {l : List S45} {q : Q} (s : Sep w0 p r) (h : RR w r M G l q) (hb : Below w0.heap.size w0 w) (hm : Moves w w' (fun k => k = r.g)) : Below w0.heap.size w0 w' := by
  obtain ⟨T, W, J, U, La, hr⟩ := RR.raw h
  have h1 := hr.2.2
  have := s.c
  have := s.d
  refine hm.to_below hb (fun k hk => ?_)
  omega
theorem clone_any {w : World} {p : Pl} {M G : Int} {l : List S45} {q : Q} (h : SS w p M G l q) : Calls Try.prog 21 #[.pointer (some ⟨p.gs, 0, none⟩)] w fun e w' => ∃ p' : Pl, e = .returned (.pointer (some ⟨p'.gs, 0, none⟩)) ∧ (p'.lo = p.lo ∧ p'.hi = p.hi ∧ w.heap.size ≤ p'.gs ∧ w.heap.size ≤ p'.gc ∧ w.heap.size ≤ p'.gp) ∧ SS w' p' M G l q ∧ Below w.heap.size w w' := by
  cases q with
  | o last => exact sclone h
  | i j n s y B bg u last => exact sclone h
theorem clone_keep {w w' : World} {p p' : Pl} {M G : Int} {l : List S45} {q q2 : Q} {N : Nat} (h : SS w p' M G l q) (h2 : SS w p M G l q2) (hp : p'.lo = p.lo ∧ p'.hi = p.hi ∧ N ≤ p'.gs ∧ N ≤ p'.gc ∧ N ≤ p'.gp) (hl : p.gs < N ∧ p.gc < N ∧ p.gp < N) (hm : Moves w w' (S3 p)) : SS w' p' M G l q := by
  obtain ⟨t, b, a, o, ins, win, maj, last, hs⟩ := SS.raw h2
  have h1 := hs.2.2.2.2
  refine SS.moves h hm ?_ ?_ ?_ ?_
  · rintro (e | e | e) <;> omega
  · rintro (e | e | e) <;> omega
  · rintro (e | e | e) <;> omega
  · rintro k (rfl | rfl | rfl) <;> omega
set_option maxHeartbeats 6400000 in
set_option maxRecDepth 100000 in
theorem plays (x0 M G x3 x4 x5 : Int) (A6 A7 A8 : Option Addr) (n6 k6 k7 n8 k8 : Nat) (l : List S45) (A : Option Addr) (n c : Nat) (X : Nat → Nat → Int) (w : World) (hr : Kd.C k45 w A7 l.length l) (hw : ∀ x ∈ l, (-9223372036854775808 ≤ x.f1 ∧ x.f1 < 9223372036854775808) ∧ (-9223372036854775808 ≤ x.f2 ∧ x.f2 < 9223372036854775808)) (hn : l.length * 24 ≤ 140737488351232) (hx : Aside0 (Recs w A n [.i64, .i64] X)) (hnn : n * 16 ≤ 140737488351232) :
    Calls Try.prog 6 #[.agg #[Value.int IntKind.i64 x0, Value.int IntKind.i64 M, Value.int IntKind.i64 G, Value.int IntKind.i64 x3, Value.int IntKind.i64 x4, Value.int IntKind.i64 x5, Value.slice A6 n6 k6, Value.slice A7 l.length k7, Value.slice A8 n8 k8], .slice A n c] w fun e w' => e = .returned (.bool true) ∧ Below w.heap.size w w' := by
  have HR := Aside0.mk hr
  have HW := Aside0.mk hw
  clear hr hw
  have HB0 : Aside0 (Below w.heap.size w ((w.alloc (Obj.cells #[Value.int IntKind.i64 x0, Value.int IntKind.i64 M, Value.int IntKind.i64 G, Value.int IntKind.i64 x3, Value.int IntKind.i64 x4, Value.int IntKind.i64 x5, Value.slice A6 n6 k6, Value.slice A7 l.length k7, Value.slice A8 n8 k8] 26)).alloc (Obj.cells #[Value.int IntKind.i64 x0, Value.int IntKind.i64 M, Value.int IntKind.i64 G, Value.int IntKind.i64 x3, Value.int IntKind.i64 x4, Value.int IntKind.i64 x5, Value.slice A6 n6 k6, Value.slice A7 l.length k7, Value.slice A8 n8 k8] 26))) := ⟨below_alloc (below_alloc (Below.refl _ _) _) _⟩
  have KC0 : Aside0 (((w.alloc (Obj.cells #[Value.int IntKind.i64 x0, Value.int IntKind.i64 M, Value.int IntKind.i64 G, Value.int IntKind.i64 x3, Value.int IntKind.i64 x4, Value.int IntKind.i64 x5, Value.slice A6 n6 k6, Value.slice A7 l.length k7, Value.slice A8 n8 k8] 26)).alloc (Obj.cells #[Value.int IntKind.i64 x0, Value.int IntKind.i64 M, Value.int IntKind.i64 G, Value.int IntKind.i64 x3, Value.int IntKind.i64 x4, Value.int IntKind.i64 x5, Value.slice A6 n6 k6, Value.slice A7 l.length k7, Value.slice A8 n8 k8] 26)).heap[w.heap.size]? = some (.cells #[Value.int IntKind.i64 x0, Value.int IntKind.i64 M, Value.int IntKind.i64 G, Value.int IntKind.i64 x3, Value.int IntKind.i64 x4, Value.int IntKind.i64 x5, Value.slice A6 n6 k6, Value.slice A7 l.length k7, Value.slice A8 n8 k8] 26 (0, 0))) := ⟨((below_alloc (Below.refl _ _) _).block _ (blk_lt (heap_alloc_new w _))).trans (heap_alloc_new w _)⟩
  have KO0 : Aside0 (((w.alloc (Obj.cells #[Value.int IntKind.i64 x0, Value.int IntKind.i64 M, Value.int IntKind.i64 G, Value.int IntKind.i64 x3, Value.int IntKind.i64 x4, Value.int IntKind.i64 x5, Value.slice A6 n6 k6, Value.slice A7 l.length k7, Value.slice A8 n8 k8] 26)).alloc (Obj.cells #[Value.int IntKind.i64 x0, Value.int IntKind.i64 M, Value.int IntKind.i64 G, Value.int IntKind.i64 x3, Value.int IntKind.i64 x4, Value.int IntKind.i64 x5, Value.slice A6 n6 k6, Value.slice A7 l.length k7, Value.slice A8 n8 k8] 26)).heap[w.heap.size + 1]? = some (.cells #[Value.int IntKind.i64 x0, Value.int IntKind.i64 M, Value.int IntKind.i64 G, Value.int IntKind.i64 x3, Value.int IntKind.i64 x4, Value.int IntKind.i64 x5, Value.slice A6 n6 k6, Value.slice A7 l.length k7, Value.slice A8 n8 k8] 26 (0, 0))) := ⟨by
    have h := heap_alloc_new (w.alloc (Obj.cells #[Value.int IntKind.i64 x0, Value.int IntKind.i64 M, Value.int IntKind.i64 G, Value.int IntKind.i64 x3, Value.int IntKind.i64 x4, Value.int IntKind.i64 x5, Value.slice A6 n6 k6, Value.slice A7 l.length k7, Value.slice A8 n8 k8] 26)) (Obj.cells #[Value.int IntKind.i64 x0, Value.int IntKind.i64 M, Value.int IntKind.i64 G, Value.int IntKind.i64 x3, Value.int IntKind.i64 x4, Value.int IntKind.i64 x5, Value.slice A6 n6 k6, Value.slice A7 l.length k7, Value.slice A8 n8 k8] 26)
    have e : (w.alloc (Obj.cells #[Value.int IntKind.i64 x0, Value.int IntKind.i64 M, Value.int IntKind.i64 G, Value.int IntKind.i64 x3, Value.int IntKind.i64 x4, Value.int IntKind.i64 x5, Value.slice A6 n6 k6, Value.slice A7 l.length k7, Value.slice A8 n8 k8] 26)).heap.size = w.heap.size + 1 := by simp only [World.alloc, Array.size_push]
    rwa [e] at h⟩
  have KS0 : Aside0 (((w.alloc (Obj.cells #[Value.int IntKind.i64 x0, Value.int IntKind.i64 M, Value.int IntKind.i64 G, Value.int IntKind.i64 x3, Value.int IntKind.i64 x4, Value.int IntKind.i64 x5, Value.slice A6 n6 k6, Value.slice A7 l.length k7, Value.slice A8 n8 k8] 26)).alloc (Obj.cells #[Value.int IntKind.i64 x0, Value.int IntKind.i64 M, Value.int IntKind.i64 G, Value.int IntKind.i64 x3, Value.int IntKind.i64 x4, Value.int IntKind.i64 x5, Value.slice A6 n6 k6, Value.slice A7 l.length k7, Value.slice A8 n8 k8] 26)).heap.size = w.heap.size + 2) := ⟨by simp only [World.alloc, Array.size_push]⟩
  go_enter Try.func6, Try.ntmps6
  go_wp2_with (first
    | ((with_reducible refine gate_dst (N := 24) rfl ?_)
       refine Kd.R_lit k45 _ 45 ?hg (N := 24) ?hd (xs := ([] : List S45)) (inner := []) (ok := fun _ => True) (okp := fun _ => True) ?hr ?hp (fun _ hk => hk) trivial (Below.refl _ _) (Nat.le_refl _) (by simp) ?_
       (case hd => rfl)
       (case hg => rfl)
       (case hr => first | (go_simp; done) | (go_simp; rfl))
       (case hp => exact (Reps.none _ _))
       intro v1 wl ho1 hb1 _ _
       have HO1 := Aside0.mk ho1
       have HBl := Aside0.mk hb1
       have kc := (hb1.block _ (blk_lt KC0.out)).trans KC0.out
       have c7 := (blk_cell kc 7).trans (show _ = some (Value.slice A7 l.length k7) from rfl)
       have hHC := Aside0.mk (Kd.C_below HR.out (below_step HB0.out hb1))
       clear kc ho1 hb1)
    | ((with_reducible refine gate_builtin (b := .append) (xs := #[.tmp 24, .tmp 26]) rfl ?_)
       at_builtin
       refine Kd.R_append_rows k45 (w0 := ((w.alloc (Obj.cells #[Value.int IntKind.i64 x0, Value.int IntKind.i64 M, Value.int IntKind.i64 G, Value.int IntKind.i64 x3, Value.int IntKind.i64 x4, Value.int IntKind.i64 x5, Value.slice A6 n6 k6, Value.slice A7 l.length k7, Value.slice A8 n8 k8] 26)).alloc (Obj.cells #[Value.int IntKind.i64 x0, Value.int IntKind.i64 M, Value.int IntKind.i64 G, Value.int IntKind.i64 x3, Value.int IntKind.i64 x4, Value.int IntKind.i64 x5, Value.slice A6 n6 k6, Value.slice A7 l.length k7, Value.slice A8 n8 k8] 26))) ((w.alloc (Obj.cells #[Value.int IntKind.i64 x0, Value.int IntKind.i64 M, Value.int IntKind.i64 G, Value.int IntKind.i64 x3, Value.int IntKind.i64 x4, Value.int IntKind.i64 x5, Value.slice A6 n6 k6, Value.slice A7 l.length k7, Value.slice A8 n8 k8] 26)).alloc (Obj.cells #[Value.int IntKind.i64 x0, Value.int IntKind.i64 M, Value.int IntKind.i64 G, Value.int IntKind.i64 x3, Value.int IntKind.i64 x4, Value.int IntKind.i64 x5, Value.slice A6 n6 k6, Value.slice A7 l.length k7, Value.slice A8 n8 k8] 26)).heap.size rfl (.tmp 24) (.tmp 26) 23 45 (.agg #[.int .i64 0, .int .i64 0, .int .i64 0]) 24 rfl Try.underlying23 SPlanNewF.info45s rfl (by decide) (by omega) v1 [] l A7 l.length k7 (fun _ => True) (fun _ => False) rfl rfl HO1.out hHC.out (fun _ _ h => h) (fun _ h => h.elim) (fun _ _ => trivial) HBl.out HBl.out.size (by simp; omega) ?_
       intro v2 w3 ho hb _ _
       simp only [List.nil_append] at ho
       have HOB := Aside0.mk (Kd.R_bound ho)
       obtain ⟨A2, c2, rfl, hcap, hC⟩ := Kd.R_reads ho
       have HB3 := Aside0.mk hb
       have ko := (hb.block _ (blk_lt KO0.out)).trans KO0.out
       have KO3 := Aside0.mk ko
       have o7 := (blk_cell ko 7).trans (show _ = some (Value.slice A7 l.length k7) from rfl)
       have of7 := blk_frozen ko 7
       have o0 := (blk_cell ko 0).trans (show _ = some (Value.int IntKind.i64 x0) from rfl)
       have o1 := (blk_cell ko 1).trans (show _ = some (Value.int IntKind.i64 M) from rfl)
       have o2 := (blk_cell ko 2).trans (show _ = some (Value.int IntKind.i64 G) from rfl)
       have o3 := (blk_cell ko 3).trans (show _ = some (Value.int IntKind.i64 x3) from rfl)
       have o4 := (blk_cell ko 4).trans (show _ = some (Value.int IntKind.i64 x4) from rfl)
       have o5 := (blk_cell ko 5).trans (show _ = some (Value.int IntKind.i64 x5) from rfl)
       have o6 := (blk_cell ko 6).trans (show _ = some (Value.slice A6 n6 k6) from rfl)
       have o8 := (blk_cell ko 8).trans (show _ = some (Value.slice A8 n8 k8) from rfl)
       clear ko ho hb hcap hC c7 hHC HO1 HBl))
  have HB3' := Aside0.mk (below_step HB0.out HB3.out)
  have HB4 := Aside0.mk (Below.setCell HB3'.out (p := ⟨w.heap.size + 1, 7, none⟩) (show w.heap.size ≤ w.heap.size + 1 by omega) (Value.slice A2 l.length c2))
  have kc3 := (HB3.out.block _ (blk_lt KC0.out)).trans KC0.out
  have KC4 := Aside0.mk ((Below.heap_setCell w3 ⟨w.heap.size + 1, 7, none⟩ (Value.slice A2 l.length c2) w.heap.size (by simp)).trans kc3)
  have KO4 := Aside0.mk (blk_put KO3.out 7 (Value.slice A2 l.length c2) rfl)
  have HOB4 := Aside0.mk (Kd.R_far HOB.out (p := ⟨w.heap.size + 1, 7, none⟩) (fun k hk e => by
    have h1 := hk.2.1
    rw [KS0.out] at h1
    have e : k = w.heap.size + 1 := e
    omega) (Value.slice A2 l.length c2))
  clear kc3 o0 o1 o2 o3 o4 o5 o6 o7 o8 of7 KO3 HOB
  generalize w3.setCell ⟨w.heap.size + 1, 7, none⟩ (Value.slice A2 l.length c2) = w4 at *
  have HC4 := Aside0.mk (Kd.R_reads' HOB4.out).2.2
  have HT4 := Aside0.mk (show ∀ ad, A2 = some ad → w.heap.size + 2 ≤ ad.block ∧ ad.block < w4.heap.size from fun ad h => by
    obtain ⟨_, h1, _, h3⟩ := HOB4.out.1 ad.block (by rw [h]; rfl)
    rw [KS0.out] at h1
    obtain ⟨_, hc⟩ := Kd.R_typed HOB4.out ad.block (by rw [h]; rfl)
    exact ⟨h1, blk_lt hc⟩)
  refine (SNew.new_calls x0 M G x3 x4 x5 A6 A2 A8 n6 k6 c2 n8 k8 l _ HC4.out HW.out).mono ?_
  unfold NewS
  generalize hE : newE M G l = E
  rintro e w5 ⟨hB, h⟩
  have HB5 := Aside0.mk (below_step HB4.out hB)
  have kc := (hB.block _ (blk_lt KC4.out)).trans KC4.out
  have KC5 := Aside0.mk kc
  have c0 := (blk_cell kc 0).trans (show _ = some (Value.int IntKind.i64 x0) from rfl)
  have c1 := (blk_cell kc 1).trans (show _ = some (Value.int IntKind.i64 M) from rfl)
  have c2' := (blk_cell kc 2).trans (show _ = some (Value.int IntKind.i64 G) from rfl)
  have c3 := (blk_cell kc 3).trans (show _ = some (Value.int IntKind.i64 x3) from rfl)
  have c4 := (blk_cell kc 4).trans (show _ = some (Value.int IntKind.i64 x4) from rfl)
  have c5 := (blk_cell kc 5).trans (show _ = some (Value.int IntKind.i64 x5) from rfl)
  have c6 := (blk_cell kc 6).trans (show _ = some (Value.slice A6 n6 k6) from rfl)
  have c7 := (blk_cell kc 7).trans (show _ = some (Value.slice A7 l.length k7) from rfl)
  have c8 := (blk_cell kc 8).trans (show _ = some (Value.slice A8 n8 k8) from rfl)
  have hk5 := (hB.block _ (blk_lt KO4.out)).trans KO4.out
  have KO5 := Aside0.mk hk5
  have HBo5 := Aside0.mk hB
  have HC5 := Aside0.mk (Kd.C_below HR.out HB5.out)
  clear kc hk5 hB
  rcases h with ⟨hne, rfl⟩ | ⟨h0, p0, rfl, hg1, hg2, hRw⟩
  · go_wp2_with fail
    refine (rnew_calls x0 M G x3 x4 x5 A6 A7 A8 n6 k6 k7 n8 k8 l _ HC5.out HW.out).mono ?_
    unfold NewR
    rw [hE]
    rintro e w6 ⟨hB2, h⟩
    rcases h with ⟨_, rfl⟩ | ⟨h0, _⟩
    · have HB6 := Aside0.mk (below_step HB5.out hB2)
      clear hE hB2
      go_wp2_with fail
      go_ret
      exact ⟨rfl, HB6.out⟩
    · exact absurd h0 hne
  subst h0
  have HF := Aside0.mk (fit_of hE).1
  have HG := Aside0.mk (new_G hE)
  have HE := Aside0.mk hE
  have HRW := Aside0.mk hRw
  have HGG := Aside0.mk (And.intro hg1 hg2)
  clear hE hRw hg1 hg2
  go_wp2_with fail
  refine (rnew_calls x0 M G x3 x4 x5 A6 A7 A8 n6 k6 k7 n8 k8 l _ HC5.out HW.out).mono ?_
  unfold NewR
  rw [HE.out]
  rintro e w6 ⟨hB2, h⟩
  rcases h with ⟨hne, rfl⟩ | ⟨_, r, rfl, hr1, hr2, hRr⟩
  · exact absurd rfl hne
  have HB6 := Aside0.mk (below_step HB5.out hB2)
  have HS6 : Aside0 (SS w6 p0 M G l (.o 0)) := ⟨Raw.below HRW.out hB2⟩
  have HR6 : Aside0 (RR w6 r M G l (.o 0)) := ⟨hRr⟩
  have HQ0 : Aside0 (Q.ok M G l (.o 0)) := ⟨⟨by omega, by omega⟩⟩
  have KO6 := Aside0.mk ((hB2.block _ (blk_lt KO5.out)).trans KO5.out)
  have HOB6 := Aside0.mk (Kd.R_below (Kd.R_below HOB4.out HBo5.out) hB2)
  have HSEP0 : Aside0 (Sep w p0 r) := ⟨by
    have e1 := HGG.out
    have e2 := HB4.out.size
    have e3 := HBo5.out.size
    have e4 := blk_lt HRW.out.1
    have e5 := blk_lt HRW.out.2.1
    have e6 := blk_lt HRW.out.2.2.1
    have e7 := HRW.out.2.2.2.1.1
    have e8 := hRr.2.2
    exact ⟨by omega, e1.2, by omega, hr2, .inl (by omega), .inl (by omega), .inl (by omega), .inr (by omega)⟩⟩
  have HA2 : Aside0 (∀ ad, A2 = some ad → w.heap.size ≤ ad.block ∧ w.heap.size + 1 ≠ ad.block ∧ ad.block < p0.lo ∧ ad.block < r.lo ∧ ad.block < w6.heap.size) := ⟨fun ad h => by
    have e0 := HT4.out ad h
    have e1 := HGG.out
    have e3 := HBo5.out.size
    have e4 := hB2.size
    omega⟩
  have HROW : Aside0 (RowOk A2 l.length w6) := ⟨fun ad h => by
    have hl0 : 0 < l.length ∨ l.length = 0 := by omega
    rcases hl0 with hl0 | hl0
    · obtain ⟨g, cap, he, _, _, cells, hc⟩ := Kd.R_form HOB6.out hl0
      rw [h] at he
      injection he with he _ _
      injection he with he
      subst he
      refine ⟨g, rfl, cells, hc, ?_⟩
      obtain ⟨ao, hA2, ho0, ho1, ho2⟩ := at_T45 (Kd.R_reads' HOB6.out).2.2 ((l.length - 1 : Nat) : Int) (by omega) (by omega)
      rw [h] at hA2
      injection hA2 with hA2
      subst hA2
      rw [Int.toNat_natCast, Go.WideShapes.add_plain, Nat.zero_add] at ho2
      rw [blk_cell hc] at ho2
      have h9 : (l.length - 1) * 3 + 2 < cells.size := (Array.getElem?_eq_some_iff.1 ho2).1
      omega
    · obtain ⟨inner, ho⟩ := Kd.R_own HOB6.out
      obtain ⟨cells, hc⟩ := Kd.R_typed HOB6.out ad.block (by rw [h]; rfl)
      rcases ho.2 with ⟨hv, _⟩ | ⟨gg, cap, cur, hv, _⟩
      · rw [h] at hv
        simp at hv
      · rw [h] at hv
        simp only [Value.slice.injEq, Option.some.injEq] at hv
        obtain ⟨rfl, _⟩ := hv
        exact ⟨gg, rfl, cells, hc, by omega⟩⟩
  have HROWN : Aside0 (0 < l.length → ∃ ad, A2 = some ad ∧ True) := ⟨fun h => by
    obtain ⟨g, cap, he, _⟩ := Kd.R_form HOB6.out h
    injection he with he _ _
    exact ⟨_, he, trivial⟩⟩
  have Hm0 : Aside0 (Moves w6 w6 (fun k => ∃ ad, A2 = some ad ∧ k = ad.block)) := ⟨Moves.refl _ _⟩
  clear c0 c1 c2' c3 c4 c5 c6 c7 c8 hB2 hr1 hr2 hRr HBo5 HB5 HB4 HB3 HB3' HB0 KC0 KO0 KS0 KC4 KO4 KC5 KO5 HOB4 HC4 HT4 HC5 HRW HGG HOB6
  go_wp2_with fail
  go_loopw [10] (fun u wr => ∃ i : Nat, u = .int .i64 i ∧ i ≤ l.length ∧ Aside0 (Moves w6 wr (fun k => ∃ ad, A2 = some ad ∧ k = ad.block)) ∧ Aside0 (RowOk A2 l.length wr)) (fun u _ => l.length - (intOf u).toNat)
  case atStart => exact ⟨0, rfl, by omega, Hm0, HROW⟩
  case round =>
    clear Hm0 HROW
    obtain ⟨i, rfl, hi, HM, HROW⟩ := hrel
    have ko := HM.out.blk KO6.out (fun ⟨ad, h, e⟩ => (HA2.out ad h).2.1 e)
    have o7 := (blk_cell ko 7).trans (show _ = some (Value.slice A2 l.length c2) from rfl)
    clear ko
    by_cases hlt : i < l.length
    · have hsome : ∃ ad, A2 = some ad := by
        cases hA : A2 with
        | none =>
          obtain ⟨ad, hA3, _⟩ := HROWN.out (by omega)
          rw [hA] at hA3
          cases hA3
        | some ad => exact ⟨ad, rfl⟩
      obtain ⟨ad, hA⟩ := hsome
      obtain ⟨b, rfl, _⟩ := HROW.out ad hA
      obtain ⟨⟨v0, q0⟩, fr0⟩ := HROW.out.cell hA (show i * 3 < l.length * 3 by omega)
      obtain ⟨⟨v1, q1⟩, fr1⟩ := HROW.out.cell hA (show i * 3 + 1 < l.length * 3 by omega)
      obtain ⟨⟨v2, q2⟩, fr2⟩ := HROW.out.cell hA (show i * 3 + 2 < l.length * 3 by omega)
      have d1 : decide ((l.length : Int) ≤ (i : Int)) = false := decide_eq_false (by omega)
      have d2 : decide (l.length ≤ i) = false := decide_eq_false (by omega)
      have d3 : decide ((i : Int) < 0) = false := decide_eq_false (by omega)
      have HAA := Aside0.mk hA
      have HSb : Aside0 (∃ ad, A2 = some ad ∧ b = ad.block) := ⟨_, hA, rfl⟩
      rw [hA] at o7
      clear hA
      have HM2 : ∀ {wx : World} {m : Nat} {v : Value}, Moves w6 wx (fun k => ∃ ad, A2 = some ad ∧ k = ad.block) → Moves w6 (wx.setCell ⟨b, m, none⟩ v) (fun k => ∃ ad, A2 = some ad ∧ k = ad.block) := fun h => h.setCell (p := ⟨b, _, none⟩) HSb.out _
      have HM3 := Aside0.mk (HM2 (m := i * 3 + 2) (v := .int .i64 1) (HM2 (m := i * 3 + 1) (v := .int .i64 1) (HM2 (m := i * 3) (v := .int .i64 7) HM.out)))
      have HR3 := Aside0.mk (((HROW.out.set (v := .int .i64 7) (j := i * 3) HAA.out).set (v := .int .i64 1) (j := i * 3 + 1) HAA.out).set (v := .int .i64 1) (j := i * 3 + 2) HAA.out)
      clear HM2
      go_wp2_with fail
      go_roundw
      case rel => exact ⟨i + 1, by go_num, by omega, by first | exact HM3 | (simpa using HM3), by first | exact HR3 | (simpa using HR3)⟩
      case measure =>
        simp [intOf]
        omega
    · have HS7 : Aside0 (SS wr p0 M G l (.o 0)) := ⟨SS.moves HS6.out HM.out (fun ⟨ad, h, e⟩ => by have := HA2.out ad h; have h1 := (show Outs w6 p0 M G l 0 from HS6.out).2.2.2.2; have := HSEP0.out.b; omega) (fun ⟨ad, h, e⟩ => by have := HA2.out ad h; have h1 := (show Outs w6 p0 M G l 0 from HS6.out).2.2.2.2; have := HSEP0.out.b; omega) (fun ⟨ad, h, e⟩ => by have := HA2.out ad h; have h1 := (show Outs w6 p0 M G l 0 from HS6.out).2.2.2.2; have := HSEP0.out.b; omega) (fun k ⟨ad, h, e⟩ => by have := HA2.out ad h; omega)⟩
      have HR7 : Aside0 (RR wr r M G l (.o 0)) := ⟨RR.moves HR6.out HM.out (fun ⟨ad, h, e⟩ => by have := HA2.out ad h; have h1 := (show RRaw w6 r M G l 0 (-1) (-1) 0 0 from HR6.out).2.2; have := HSEP0.out.d; omega) (fun k ⟨ad, h, e⟩ => by have := HA2.out ad h; omega)⟩
      have HB7 : Aside0 (Below w.heap.size w wr) := ⟨HM.out.to_below HB6.out (fun k ⟨ad, h, e⟩ => by have := HA2.out ad h; omega)⟩
      clear HM HROW HS6 HR6 HB6 KO6 HA2 HROWN
      go_wp2_with fail
      go_loopw [6, 11, 12, 13, 14, 15, 16, 17, 18, 19, 20, 21, 22] (fun s6 si _ _ _ _ _ _ _ _ _ _ _ wq => ∃ (p : Pl) (q : Q) (i : Nat), s6 = .pointer (some ⟨p.gs, 0, none⟩) ∧ si = .int .i64 i ∧ i ≤ 200 ∧ Aside0 (q.ok M G l) ∧ Aside0 (SS wq p M G l q) ∧ Aside0 (RR wq r M G l q) ∧ Aside0 (Below w.heap.size w wq) ∧ Aside0 (Sep w p r)) (fun _ si _ _ _ _ _ _ _ _ _ _ _ _ => 200 - (intOf si).toNat)
      case atStart => exact ⟨p0, .o 0, 0, rfl, rfl, by omega, HQ0, HS7, HR7, HB7, HSEP0⟩
      case round =>
        clear HQ0 HS7 HR7 HB7 HSEP0 hlt hi o7
        obtain ⟨p, q, i, rfl, rfl, hi, HQ, HS1, HR1, HB1, HSEP⟩ := hrel
        by_cases hlt : i < n ∧ i < 200
        · obtain ⟨bl, off, hA, _⟩ := hx.out i 0 .i64 hlt.1 rfl
          have HL : Aside0 (∀ V, Below w.heap.size w V → V.cell? ⟨bl, off + i * 2, none⟩ = some (.int .i64 (X i 0)) ∧ V.cell? ⟨bl, off + i * 2 + 1, none⟩ = some (.int .i64 (X i 1))) := ⟨fun V hV => by
            obtain ⟨b1, o1, e1, h1, _⟩ := (hx.out.below hV) i 0 .i64 hlt.1 rfl
            obtain ⟨b2, o2, e2, h2, _⟩ := (hx.out.below hV) i 1 .i64 hlt.1 rfl
            rw [hA] at e1 e2
            injection e1 with e1
            injection e1 with eb1 eo1 _
            injection e2 with e2
            injection e2 with eb2 eo2 _
            subst eb1 eo1 eb2 eo2
            exact ⟨h1, h2⟩⟩
          subst hA
          generalize X i 0 = K at *
          generalize X i 1 = N at *
          obtain ⟨lx0, lx1⟩ := HL.out wr HB1.out
          have HLX : Aside0 (∀ V, Below w.heap.size w V → V.cell? ⟨bl, off + i * 2 + 1, none⟩ = some (.int .i64 N)) := ⟨fun V hV => (HL.out V hV).2⟩
          have d1 : decide ((i : Int) < (n : Int)) = true := decide_eq_true (by omega)
          have d2 : decide (i < n) = true := decide_eq_true hlt.1
          have d3 : decide ((i : Int) < 200) = true := decide_eq_true (by omega)
          have d4 : decide (i < 200) = true := decide_eq_true hlt.2
          have d5 : decide ((n : Int) ≤ (i : Int)) = false := decide_eq_false (by omega)
          have d6 : decide (n ≤ i) = false := decide_eq_false (by omega)
          have d7 : decide ((i : Int) < 0) = false := decide_eq_false (by omega)
          have hl1 := hlt.1
          have hl2 := hlt.2
          clear hlt HL
          by_cases k0 : K = 0
          · subst k0
            obtain ⟨x, y, e0, q', hq', B1, B2⟩ := enter_both HF.out HG.out q HQ.out
            have C1 : Aside0 (∀ w p, SS w p M G l q → Calls Try.prog 9 #[.pointer (some ⟨p.gs, 0, none⟩)] w fun e w' => e = .returned (.tuple #[.int .i64 x, .int .i64 y, .int .i64 e0]) ∧ SS w' p M G l q' ∧ Moves w w' (S3 p)) := ⟨fun w p h => by simpa using B1 w p h⟩
            have C2 : Aside0 (∀ w r, RR w r M G l q → Calls Try.prog 18 #[.pointer (some ⟨r.g, 0, none⟩)] w fun e w' => e = .returned (.tuple #[.int .i64 x, .int .i64 y, .int .i64 e0]) ∧ RR w' r M G l q' ∧ Moves w w' (fun k => k = r.g)) := ⟨fun w r h => by simpa using B2 w r h⟩
            have HQ2 := Aside0.mk hq'
            clear B1 B2 hq'
            go_wp2_with fail
            refine (C1.out _ p HS1.out).mono ?_
            rintro e w2 ⟨rfl, hs, hm⟩
            have HS2 := Aside0.mk hs
            have HR2 := Aside0.mk (keep_R HSEP.out HR1.out HS1.out hm)
            have HB2 := Aside0.mk (new_S HSEP.out HS1.out HB1.out hm)
            clear hs hm lx0 lx1
            go_wp2_with fail
            refine (C2.out _ r HR2.out).mono ?_
            rintro e w3 ⟨rfl, hr, hm⟩
            have HR3 := Aside0.mk hr
            have HS3 := Aside0.mk (keep_S HSEP.out HS2.out HR2.out hm)
            have HB3 := Aside0.mk (new_R HSEP.out HR2.out HB2.out hm)
            clear hr hm C1 C2 HS1 HR1 HS2 HR2
            go_wp2_with fail
            refine (same_calls HS3.out HR3.out HQ2.out HG.out).mono ?_
            rintro e wz ⟨rfl, mz, hw⟩
            have HSz : Aside0 (SS wz p M G l q') := ⟨by rw [hw]; exact SS.drewN HS3.out mz⟩
            have HRz : Aside0 (RR wz r M G l q') := ⟨by rw [hw]; exact RR.drewN HR3.out mz⟩
            have HBz : Aside0 (Below w.heap.size w wz) := ⟨by rw [hw]; exact pw_below_drewN HB3.out mz⟩
            clear hw
            go_wp2_with fail
            go_roundw
            case rel => exact ⟨p, q', i + 1, rfl, by go_num, by omega, HQ2, HSz, HRz, HBz, HSEP⟩
            case measure =>
              simp [intOf]
              omega
          have z0 : (K == 0) = false := beq_eq_false_iff_ne.2 k0
          by_cases k1 : K = 1
          · subst k1
            obtain ⟨e0, q', hq', B1', B2'⟩ := spend_both HF.out HG.out q HQ.out N
            have B1 : Aside0 (∀ w p, SS w p M G l q → Calls Try.prog 12 #[.pointer (some ⟨p.gs, 0, none⟩), .int .i64 N] w fun e w' => e = .returned (.int .i64 e0) ∧ SS w' p M G l q' ∧ Moves w w' (S3 p)) := ⟨fun w p h => by simpa using B1' w p h⟩
            have B2 : Aside0 (∀ w r, RR w r M G l q → Calls Try.prog 19 #[.pointer (some ⟨r.g, 0, none⟩), .int .i64 N] w fun e w' => e = .returned (.int .i64 e0) ∧ RR w' r M G l q' ∧ Moves w w' (fun k => k = r.g)) := ⟨fun w r h => by simpa using B2' w r h⟩
            have HQ2 := Aside0.mk hq'
            clear B1' B2' hq'
            go_upto_region 30 with fail
            go_region_with (first | (go_at_call 12; refine (B1.out _ p (by with_reducible first | exact HRs1.out | exact SS.drew HRs1.out | exact SS.drewN HRs1.out _ | exact HS1.out | exact SS.drew HS1.out | exact SS.drewN HS1.out _)).mono ?_; rintro e wS ⟨rfl, hs, hm⟩; have HSs := Aside0.mk hs; have HRs2 := Aside0.mk (keep_R HSEP.out (by with_reducible first | exact HRr1.out | exact RR.drew HRr1.out | exact RR.drewN HRr1.out _ | exact HR1.out | exact RR.drew HR1.out | exact RR.drewN HR1.out _) (by with_reducible first | exact HRs1.out | exact SS.drew HRs1.out | exact SS.drewN HRs1.out _ | exact HS1.out | exact SS.drew HS1.out | exact SS.drewN HS1.out _) hm); have HBs := Aside0.mk (new_S HSEP.out (by with_reducible first | exact HRs1.out | exact SS.drew HRs1.out | exact SS.drewN HRs1.out _ | exact HS1.out | exact SS.drew HS1.out | exact SS.drewN HS1.out _) (by with_reducible first | exact HBr.out | exact below_drew HBr.out | exact pw_below_drewN HBr.out _ | exact HB1.out | exact below_drew HB1.out | exact pw_below_drewN HB1.out _) hm); have lx1 := HLX.out _ HBs.out; clear hs hm) | (go_at_call 19; refine (B2.out _ r (by with_reducible first | exact HRs2.out | exact RR.drew HRs2.out | exact RR.drewN HRs2.out _ | exact HR1.out | exact RR.drew HR1.out | exact RR.drewN HR1.out _)).mono ?_; rintro e wR ⟨rfl, hs, hm⟩; have HRr1 := Aside0.mk hs; have HRs1 := Aside0.mk (keep_S HSEP.out (by with_reducible first | exact HSs.out | exact SS.drew HSs.out | exact SS.drewN HSs.out _ | exact HS1.out | exact SS.drew HS1.out | exact SS.drewN HS1.out _) (by with_reducible first | exact HRs2.out | exact RR.drew HRs2.out | exact RR.drewN HRs2.out _ | exact HR1.out | exact RR.drew HR1.out | exact RR.drewN HR1.out _) hm); have HBr := Aside0.mk (new_R HSEP.out (by with_reducible first | exact HRs2.out | exact RR.drew HRs2.out | exact RR.drewN HRs2.out _ | exact HR1.out | exact RR.drew HR1.out | exact RR.drewN HR1.out _) (by with_reducible first | exact HBs.out | exact below_drew HBs.out | exact pw_below_drewN HBs.out _ | exact HB1.out | exact below_drew HB1.out | exact pw_below_drewN HB1.out _) hm); have lx1 := HLX.out _ HBr.out; clear hs hm))
            all_goals
              go_wp2_with fail
              first
                | refine (same_calls (p := p) (r := r) (q := q') (by with_reducible first | exact HRs1.out | exact SS.drew HRs1.out | exact SS.drewN HRs1.out _) (by with_reducible first | exact HRr1.out | exact RR.drew HRr1.out | exact RR.drewN HRr1.out _) HQ2.out HG.out).mono ?_
                  have HSf := HRs1
                  have HRf := HRr1
                  have HBf := HBr
                | refine (same_calls (p := p) (r := r) (q := q') (by with_reducible first | exact HSs.out | exact SS.drew HSs.out | exact SS.drewN HSs.out _) (by with_reducible first | exact HRs2.out | exact RR.drew HRs2.out | exact RR.drewN HRs2.out _) HQ2.out HG.out).mono ?_
                  have HSf := HSs
                  have HRf := HRs2
                  have HBf := HBs
              rintro e wz ⟨rfl, mz, hw⟩
              have HSz : Aside0 (SS wz p M G l q') := ⟨by rw [hw]; exact SS.drewN (by with_reducible first | exact HSf.out | exact SS.drew HSf.out | exact SS.drewN HSf.out _) mz⟩
              have HRz : Aside0 (RR wz r M G l q') := ⟨by rw [hw]; exact RR.drewN (by with_reducible first | exact HRf.out | exact RR.drew HRf.out | exact RR.drewN HRf.out _) mz⟩
              have HBz : Aside0 (Below w.heap.size w wz) := ⟨by rw [hw]; exact pw_below_drewN (by with_reducible first | exact HBf.out | exact below_drew HBf.out | exact pw_below_drewN HBf.out _) mz⟩
              clear hw
              go_wp2_with fail
              go_roundw
              case rel => exact ⟨p, q', i + 1, rfl, by go_num, by omega, HQ2, HSz, HRz, HBz, HSEP⟩
              case measure =>
                simp [intOf]
                omega
          have z1 : (K == 1) = false := beq_eq_false_iff_ne.2 k1
          by_cases k2 : K = 2
          · subst k2
            obtain ⟨x, e0, q', hq', B1, B2⟩ := leave_both HF.out HG.out q HQ.out
            have C1 : Aside0 (∀ w p, SS w p M G l q → Calls Try.prog 14 #[.pointer (some ⟨p.gs, 0, none⟩)] w fun e w' => e = .returned (.tuple #[.int .i64 x, .int .i64 e0]) ∧ SS w' p M G l q' ∧ Moves w w' (S3 p)) := ⟨fun w p h => by simpa using B1 w p h⟩
            have C2 : Aside0 (∀ w r, RR w r M G l q → Calls Try.prog 20 #[.pointer (some ⟨r.g, 0, none⟩)] w fun e w' => e = .returned (.tuple #[.int .i64 x, .int .i64 e0]) ∧ RR w' r M G l q' ∧ Moves w w' (fun k => k = r.g)) := ⟨fun w r h => by simpa using B2 w r h⟩
            have HQ2 := Aside0.mk hq'
            clear B1 B2 hq'
            go_wp2_with fail
            refine (C1.out _ p HS1.out).mono ?_
            rintro e w2 ⟨rfl, hs, hm⟩
            have HS2 := Aside0.mk hs
            have HR2 := Aside0.mk (keep_R HSEP.out HR1.out HS1.out hm)
            have HB2 := Aside0.mk (new_S HSEP.out HS1.out HB1.out hm)
            clear hs hm lx0 lx1
            go_wp2_with fail
            refine (C2.out _ r HR2.out).mono ?_
            rintro e w3 ⟨rfl, hr, hm⟩
            have HR3 := Aside0.mk hr
            have HS3 := Aside0.mk (keep_S HSEP.out HS2.out HR2.out hm)
            have HB3 := Aside0.mk (new_R HSEP.out HR2.out HB2.out hm)
            clear hr hm C1 C2 HS1 HR1 HS2 HR2
            go_wp2_with fail
            refine (same_calls HS3.out HR3.out HQ2.out HG.out).mono ?_
            rintro e wz ⟨rfl, mz, hw⟩
            have HSz : Aside0 (SS wz p M G l q') := ⟨by rw [hw]; exact SS.drewN HS3.out mz⟩
            have HRz : Aside0 (RR wz r M G l q') := ⟨by rw [hw]; exact RR.drewN HR3.out mz⟩
            have HBz : Aside0 (Below w.heap.size w wz) := ⟨by rw [hw]; exact pw_below_drewN HB3.out mz⟩
            clear hw
            go_wp2_with fail
            go_roundw
            case rel => exact ⟨p, q', i + 1, rfl, by go_num, by omega, HQ2, HSz, HRz, HBz, HSEP⟩
            case measure =>
              simp [intOf]
              omega
          have z2 : (K == 2) = false := beq_eq_false_iff_ne.2 k2
          obtain ⟨xa, ya, ea, qa, hqa, B1, _⟩ := enter_both HF.out HG.out q HQ.out
          obtain ⟨eb, qb, hqb, B2, _⟩ := spend_both HF.out HG.out qa hqa 1
          obtain ⟨xc, ec, qc, hqc, B3, _⟩ := leave_both HF.out HG.out qb hqb
          have C1 : Aside0 (∀ w p, SS w p M G l q → Calls Try.prog 9 #[.pointer (some ⟨p.gs, 0, none⟩)] w fun e w' => e = .returned (.tuple #[.int .i64 xa, .int .i64 ya, .int .i64 ea]) ∧ SS w' p M G l qa ∧ Moves w w' (S3 p)) := ⟨fun w p h => by simpa using B1 w p h⟩
          have C2 : Aside0 (∀ w p, SS w p M G l qa → Calls Try.prog 12 #[.pointer (some ⟨p.gs, 0, none⟩), .int .i64 1] w fun e w' => e = .returned (.int .i64 eb) ∧ SS w' p M G l qb ∧ Moves w w' (S3 p)) := ⟨fun w p h => by simpa using B2 w p h⟩
          have C3 : Aside0 (∀ w p, SS w p M G l qb → Calls Try.prog 14 #[.pointer (some ⟨p.gs, 0, none⟩)] w fun e w' => e = .returned (.tuple #[.int .i64 xc, .int .i64 ec]) ∧ SS w' p M G l qc ∧ Moves w w' (S3 p)) := ⟨fun w p h => by simpa using B3 w p h⟩
          have HLT : Aside0 (p.gs < wr.heap.size ∧ p.gc < wr.heap.size ∧ p.gp < wr.heap.size) := ⟨by
            obtain ⟨t, b, a, o, ins, win, maj, last, hs⟩ := SS.raw HS1.out
            exact ⟨blk_lt hs.1, blk_lt hs.2.1, blk_lt hs.2.2.1⟩⟩
          have HRH : Aside0 (r.hi ≤ wr.heap.size) := ⟨by
            obtain ⟨T, W, J, U, La, hr⟩ := RR.raw HR1.out
            exact hr.2.1.1⟩
          clear B1 B2 B3 hqa hqb hqc
          go_wp2_with fail
          refine (clone_any HS1.out).mono ?_
          rintro e w2 ⟨p', rfl, hp, hs, hB⟩
          have HP := Aside0.mk hp
          have HC2 := Aside0.mk hs
          have HS2 := Aside0.mk (SS.below HS1.out hB)
          have HR2 := Aside0.mk (RR.below HR1.out hB)
          have HB2 := Aside0.mk (below_step HB1.out hB)
          have HSEP2 : Aside0 (Sep w p' r) := ⟨by
            have h1 := HSEP.out
            have h2 := HP.out
            have h3 := HRH.out
            exact ⟨by have := h1.a; omega, by have := h1.b; omega, h1.c, h1.d, .inr (by omega), .inr (by omega), .inr (by omega), by have := h1.g; omega⟩⟩
          clear hp hs hB lx0 lx1
          go_wp2_with fail
          refine (C1.out _ p HS2.out).mono ?_
          rintro e w3 ⟨rfl, hs, hm⟩
          have HC3 := Aside0.mk (clone_keep HC2.out HS2.out HP.out HLT.out hm)
          have HR3 := Aside0.mk (keep_R HSEP.out HR2.out HS2.out hm)
          have HB3 := Aside0.mk (new_S HSEP.out HS2.out HB2.out hm)
          have HS3 := Aside0.mk hs
          clear hs hm
          go_wp2_with fail
          refine (C2.out _ p HS3.out).mono ?_
          rintro e w4 ⟨rfl, hs, hm⟩
          have HC4 := Aside0.mk (clone_keep HC3.out HS3.out HP.out HLT.out hm)
          have HR4 := Aside0.mk (keep_R HSEP.out HR3.out HS3.out hm)
          have HB4 := Aside0.mk (new_S HSEP.out HS3.out HB3.out hm)
          have HS4 := Aside0.mk hs
          clear hs hm
          go_wp2_with fail
          refine (C3.out _ p HS4.out).mono ?_
          rintro e w5 ⟨rfl, hs, hm⟩
          have HC5 := Aside0.mk (clone_keep HC4.out HS4.out HP.out HLT.out hm)
          have HR5 := Aside0.mk (keep_R HSEP.out HR4.out HS4.out hm)
          have HB5 := Aside0.mk (new_S HSEP.out HS4.out HB4.out hm)
          clear hs hm
          go_wp2_with fail
          refine (same_calls HC5.out HR5.out HQ.out HG.out).mono ?_
          rintro e wz ⟨rfl, mz, hw⟩
          have HSz : Aside0 (SS wz p' M G l q) := ⟨by rw [hw]; exact SS.drewN HC5.out mz⟩
          have HRz : Aside0 (RR wz r M G l q) := ⟨by rw [hw]; exact RR.drewN HR5.out mz⟩
          have HBz : Aside0 (Below w.heap.size w wz) := ⟨by rw [hw]; exact pw_below_drewN HB5.out mz⟩
          clear hw
          go_wp2_with fail
          go_roundw
          case rel => exact ⟨p', q, i + 1, rfl, by go_num, by omega, HQ, HSz, HRz, HBz, HSEP2⟩
          case measure =>
            simp [intOf]
            omega
        · have dd : decide ((i : Int) < (n : Int)) = false ∨ (decide ((i : Int) < (n : Int)) = true ∧ decide ((i : Int) < 200) = false) := by
            by_cases h : i < n
            · exact .inr ⟨decide_eq_true (by omega), decide_eq_false (by omega)⟩
            · exact .inl (decide_eq_false (by omega))
          have dn : decide (i < n) = decide ((i : Int) < (n : Int)) := decide_eq_decide.2 (by omega)
          have d2 : decide (i < 200) = decide ((i : Int) < 200) := decide_eq_decide.2 (by omega)
          rcases dd with e1 | ⟨e1, e2⟩
          · rw [e1] at dn
            clear hlt d2
            go_wp2_with fail
            refine (same_calls HS1.out HR1.out HQ.out HG.out).mono ?_
            rintro e wz ⟨rfl, mz, hw⟩
            have HBz : Aside0 (Below w.heap.size w wz) := ⟨by rw [hw]; exact pw_below_drewN HB1.out mz⟩
            clear hw
            go_wp2_with fail
            go_ret
            exact ⟨rfl, HBz.out⟩
          · rw [e1] at dn
            rw [e2] at d2
            clear hlt
            go_wp2_with fail
            refine (same_calls HS1.out HR1.out HQ.out HG.out).mono ?_
            rintro e wz ⟨rfl, mz, hw⟩
            have HBz : Aside0 (Below w.heap.size w wz) := ⟨by rw [hw]; exact pw_below_drewN HB1.out mz⟩
            clear hw
            go_wp2_with fail
            go_ret
            exact ⟨rfl, HBz.out⟩
end Go.Proofs.Ytagnlbpndldfeaa.SLawPlays
