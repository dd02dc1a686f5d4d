/- The document's time: its calls, by its place. -/
import Derived.Test.YtagnlbpndldfeaaSLive
import Derived.Test.YtagnlbpndldfeaaSPlanRNewF
namespace Go.Proofs.Ytagnlbpndldfeaa.SPlaysR
open Go.RowKit Go.Proofs.Ytagnlbpndldfeaa.PSchedPlays Go.Proofs.YtagnlbpndldfeaaW.PrintWords Go.Proofs.YtagnlbpndldfeaaW.PrintLast Go.Proofs.YtagnlbpndldfeaaW.PrintMore Go.Proofs.Ytagnlbpndldfeaa.Aid Go.Proofs.Ytagnlbpndldfeaa.PlanBase Go.Proofs.Ytagnlbpndldfeaa.SPlanAt Go.Proofs.Ytagnlbpndldfeaa.SPlanStart Go.Proofs.Ytagnlbpndldfeaa.SPlanCalls Go.Proofs.Ytagnlbpndldfeaa.SPlanBudget Go.Proofs.Ytagnlbpndldfeaa.SBase Go.Proofs.Ytagnlbpndldfeaa.SState Go.Proofs.Ytagnlbpndldfeaa.SLeave Go.Proofs.Ytagnlbpndldfeaa.SEnter Go.Proofs.Ytagnlbpndldfeaa.SCycPure Go.Proofs.Ytagnlbpndldfeaa.SLive
set_option linter.unusedVariables false
set_option linter.unusedSimpArgs false
attribute [local go_sem] min2_int min_two
/-- The places of the document's time. -/
structure RP where
  g : Nat
  gq : Nat
  lo : Nat
  hi : Nat
def RRaw (w : World) (r : RP) (M G : Int) (l : List S45) (T W J U La : Int) : Prop :=
  w.heap[r.g]? = some (.cells #[.pointer (some ⟨r.gq, 0, none⟩), .int .i64 T, .int .i64 W, .int .i64 J, .int .i64 U, .int .i64 La] 85 (0, 0)) ∧ PlanI 87 w r.gq M G l r.lo r.hi ∧ r.hi ≤ r.g
variable {w w' : World} {r : RP} {M G : Int} {l : List S45} {T W J U La : Int}
theorem RRaw.moves {S : Nat → Prop} (h : RRaw w r M G l T W J U La) (hm : Moves w w' S) (h1 : ¬ S r.g) (hs : ∀ k, S k → k < r.lo ∨ r.hi ≤ k) : RRaw w' r M G l T W J U La :=
  ⟨hm.blk h.1 h1, h.2.1.moves hm hs, h.2.2⟩
theorem RRaw.below (h : RRaw w r M G l T W J U La) (hb : Below w.heap.size w w') : RRaw w' r M G l T W J U La :=
  h.moves (Moves.of_below hb (fun _ => False)) id (fun _ hk => hk.elim)
theorem RRaw.drewN (h : RRaw w r M G l T W J U La) (m : Nat) : RRaw (w.drewN m) r M G l T W J U La := h
theorem RRaw.all (h : RRaw w r M G l T W J U La) (hm : Moves w w' (fun k => k = r.g)) {T' W' J' U' La' : Int} (hb : w'.heap[r.g]? = some (.cells #[.pointer (some ⟨r.gq, 0, none⟩), .int .i64 T', .int .i64 W', .int .i64 J', .int .i64 U', .int .i64 La'] 85 (0, 0))) : RRaw w' r M G l T' W' J' U' La' :=
  ⟨hb, h.2.1.moves hm (fun k hk => .inr (by rw [hk]; exact h.2.2)), h.2.2⟩
theorem rnext_at {j i e : Int} {t : Int} (h : RRaw w r M G l T W J U La) (hF : Fit M l) (hN : nextR M l t = (j, i, e)) : Calls Try.prog 37 #[.pointer (some ⟨r.gq, 0, none⟩), .int .i64 t] w fun e' w' => e' = .returned (.tuple #[.int .i64 j, .int .i64 i, .int .i64 e]) ∧ Below w.heap.size w w' := by
  have := SPlanCalls.rnext_calls r.gq M G l w t h.2.1.now hF
  rw [hN] at this
  exact this
theorem rstart_at {s e j i : Int} (h : RRaw w r M G l T W J U La) (hF : Fit M l) (hS : startS M l j i = (s, e)) : Calls Try.prog 38 #[.pointer (some ⟨r.gq, 0, none⟩), .int .i64 j, .int .i64 i] w fun e' w' => e' = .returned (.tuple #[.int .i64 s, .int .i64 e]) ∧ Below w.heap.size w w' := by
  have := SPlanCalls.rstart_calls r.gq M G l w j i h.2.1.now hF
  rw [hS] at this
  exact this
theorem rbudget_at {i B : Int} (h : RRaw w r M G l T W J U La) (hF : Fit M l) (hG : 0 ≤ G ∧ G ≤ 16777216) (hB : budget G l i = B) : Calls Try.prog 46 #[.pointer (some ⟨r.gq, 0, none⟩), .int .i64 i] w fun e' w' => e' = .returned (.int .i64 B) ∧ Below w.heap.size w w' := by
  have := SPlanBudget.rbudget_calls r.gq M G i l w h.2.1.now hF hG.1 hG.2
  rw [hB] at this
  exact this
theorem rtime_in (h : RRaw w r M G l T W J U La) (hW : 0 ≤ W) : Calls Try.prog 42 #[.pointer (some ⟨r.g, 0, none⟩)] w fun e w' => e = .returned (.int .i64 T) ∧ w' = w := by
  have c1 : w.cell? ⟨r.g, 1, none⟩ = some (.int .i64 T) := (blk_cell h.1 1).trans rfl
  have c2 : w.cell? ⟨r.g, 2, none⟩ = some (.int .i64 W) := (blk_cell h.1 2).trans rfl
  have d : decide (W < 0) = false := decide_eq_false (by omega)
  clear h
  go_enter Try.func42, Try.ntmps42
  go_wp2_with fail
  go_ret
  exact ⟨rfl, rfl⟩
theorem rtime_out (h : RRaw w r M G l T (-1) J U La) : Calls Try.prog 42 #[.pointer (some ⟨r.g, 0, none⟩)] w fun e w' => e = .returned (.int .i64 La) ∧ w' = w := by
  have c2 : w.cell? ⟨r.g, 2, none⟩ = some (.int .i64 (-1)) := (blk_cell h.1 2).trans rfl
  have c5 : w.cell? ⟨r.g, 5, none⟩ = some (.int .i64 La) := (blk_cell h.1 5).trans rfl
  clear h
  go_enter Try.func42, Try.ntmps42
  go_wp2_with fail
  go_ret
  exact ⟨rfl, rfl⟩
set_option maxHeartbeats 3200000 in
set_option maxRecDepth 100000 in
theorem rmay_in {B : Int} (h : RRaw w r M G l T W J U La) (hF : Fit M l) (hG : 0 ≤ G ∧ G ≤ 16777216) (hW : 0 ≤ W) (hB : budget G l W = B) : Calls Try.prog 39 #[.pointer (some ⟨r.g, 0, none⟩)] w fun e w' => e = .returned (.bool (decide (U < B))) ∧ Below w.heap.size w w' := by
  have H := Aside0.mk h
  have HF := Aside0.mk hF
  have HG := Aside0.mk hG
  have HB := Aside0.mk hB
  have hd : decide (0 ≤ W) = true := decide_eq_true hW
  clear h hF hG hB
  go_enter Try.func39, Try.ntmps39
  go_wp2_with fail
  have Hs0 := Aside0.mk (below_drew1 (Below.refl w.heap.size w))
  refine start_ (n := 22) (S := fun w' => Below w.heap.size w w') (ds := []) #[false, false, false, false, false, false, false, false, false, false, false, false, false, false, false, false, false, false, false, false, false, false] (by kernel_rfl) rfl rfl Hs0.out (fun hs => ?_)
  have Hs := Aside0.mk hs
  clear hs Hs0
  refine pure_ (i := 0) (N := some 3) (v := ?_) (a' := ?_) #[true, false, false, false, false, false, false, false, false, false, false, false, false, false, false, false, false, false, false, false, false, false] rfl rfl (by kernel_rfl) (fun _ _ _ h => h) (Or.inl ⟨by rfl, ?_⟩) ?_ ?_
  rotate_left
  · intro w'
    go_simp
    with_reducible rfl
  rotate_left
  · simp only [Act.put, List.setIfInBounds_toArray, List.set_cons_zero, List.set_cons_succ]
    rfl
  refine pure_ (i := 1) (N := some 4) (v := ?_) (a' := ?_) #[true, true, false, false, false, false, false, false, false, false, false, false, false, false, false, false, false, false, false, false, false, false] rfl rfl (by kernel_rfl) (fun _ _ _ h => h) (Or.inl ⟨by rfl, ?_⟩) ?_ ?_
  rotate_left
  · intro w'
    go_simp
    with_reducible rfl
  rotate_left
  · simp only [Act.put, List.setIfInBounds_toArray, List.set_cons_zero, List.set_cons_succ]
    rfl
  refine pure_ (i := 2) (N := some 5) (v := ?_) (a' := ?_) #[true, true, true, false, false, false, false, false, false, false, false, false, false, false, false, false, false, false, false, false, false, false] rfl rfl (by kernel_rfl) (fun _ _ _ h => h) (Or.inl ⟨by rfl, ?_⟩) ?_ ?_
  rotate_left
  · intro w'
    go_simp
    with_reducible rfl
  rotate_left
  · simp only [Act.put, List.setIfInBounds_toArray, List.set_cons_zero, List.set_cons_succ]
    rfl
  refine take_ (i := 3) (N := some 6) (v := .int .i64 W) #[true, true, true, true, false, false, false, false, false, false, false, false, false, false, false, false, false, false, false, false, false, false] rfl rfl (by kernel_rfl) (fun _ _ _ h => h) (Or.inl ⟨by rfl, ?_⟩) ?_ (a' := ?_) ?_ ?_
  · intro w' hS
    have hx : w'.cell? ⟨r.g, 2, none⟩ = some (.int .i64 W) := (hS.cell (p := ⟨r.g, 2, none⟩) (blk_lt H.out.1)).trans ((blk_cell H.out.1 2).trans rfl)
    go_simp
  · exact Hs.out
  rotate_left
  · simp only [Act.put, List.setIfInBounds_toArray, List.set_cons_zero, List.set_cons_succ]
    rfl
  refine pure_ (i := 4) (N := some 7) (v := ?_) (a' := ?_) #[true, true, true, true, true, false, false, false, false, false, false, false, false, false, false, false, false, false, false, false, false, false] rfl rfl (by kernel_rfl) (fun _ _ _ h => h) (Or.inl ⟨by rfl, ?_⟩) ?_ ?_
  rotate_left
  · intro w'
    go_simp
    with_reducible rfl
  rotate_left
  · simp only [Act.put, List.setIfInBounds_toArray, List.set_cons_zero, List.set_cons_succ]
    rfl
  refine pure_ (i := 5) (N := some 8) (v := ?_) (a' := ?_) #[true, true, true, true, true, true, false, false, false, false, false, false, false, false, false, false, false, false, false, false, false, false] rfl rfl (by kernel_rfl) (fun _ _ _ h => h) (Or.inl ⟨by rfl, ?_⟩) ?_ ?_
  rotate_left
  · intro w'
    go_simp
    with_reducible rfl
  rotate_left
  · simp only [Act.put, List.setIfInBounds_toArray, List.set_cons_zero, List.set_cons_succ]
    rfl
  refine pure_ (i := 6) (N := some 9) (v := ?_) (a' := ?_) #[true, true, true, true, true, true, true, false, false, false, false, false, false, false, false, false, false, false, false, false, false, false] rfl rfl (by kernel_rfl) (fun _ _ _ h => h) (Or.inl ⟨by rfl, ?_⟩) ?_ ?_
  rotate_left
  · intro w'
    go_simp
    with_reducible rfl
  rotate_left
  · simp only [Act.put, List.setIfInBounds_toArray, List.set_cons_zero, List.set_cons_succ]
    rfl
  refine pure_ (i := 7) (N := some 10) (v := ?_) (a' := ?_) #[true, true, true, true, true, true, true, true, false, false, false, false, false, false, false, false, false, false, false, false, false, false] rfl rfl (by kernel_rfl) (fun _ _ _ h => h) (Or.inl ⟨by rfl, ?_⟩) ?_ ?_
  rotate_left
  · intro w'
    go_simp
    with_reducible rfl
  rotate_left
  · simp only [Act.put, List.setIfInBounds_toArray, List.set_cons_zero, List.set_cons_succ]
    rfl
  refine pure_ (i := 8) (N := some 11) (v := ?_) (a' := ?_) #[true, true, true, true, true, true, true, true, true, false, false, false, false, false, false, false, false, false, false, false, false, false] rfl rfl (by kernel_rfl) (fun _ _ _ h => h) (Or.inl ⟨by rfl, ?_⟩) ?_ ?_
  rotate_left
  · intro w'
    go_simp
    with_reducible rfl
  rotate_left
  · simp only [Act.put, List.setIfInBounds_toArray, List.set_cons_zero, List.set_cons_succ]
    rfl
  refine take_ (i := 9) (N := some 12) (v := .int .i64 U) #[true, true, true, true, true, true, true, true, true, true, false, false, false, false, false, false, false, false, false, false, false, false] rfl rfl (by kernel_rfl) (fun _ _ _ h => h) (Or.inl ⟨by rfl, ?_⟩) ?_ (a' := ?_) ?_ ?_
  · intro w' hS
    have hx : w'.cell? ⟨r.g, 4, none⟩ = some (.int .i64 U) := (hS.cell (p := ⟨r.g, 4, none⟩) (blk_lt H.out.1)).trans ((blk_cell H.out.1 4).trans rfl)
    go_simp
  · exact Hs.out
  rotate_left
  · simp only [Act.put, List.setIfInBounds_toArray, List.set_cons_zero, List.set_cons_succ]
    rfl
  refine pure_ (i := 10) (N := some 13) (v := ?_) (a' := ?_) #[true, true, true, true, true, true, true, true, true, true, true, false, false, false, false, false, false, false, false, false, false, false] rfl rfl (by kernel_rfl) (fun _ _ _ h => h) (Or.inl ⟨by rfl, ?_⟩) ?_ ?_
  rotate_left
  · intro w'
    go_simp
    with_reducible rfl
  rotate_left
  · simp only [Act.put, List.setIfInBounds_toArray, List.set_cons_zero, List.set_cons_succ]
    rfl
  refine pure_ (i := 11) (N := some 14) (v := ?_) (a' := ?_) #[true, true, true, true, true, true, true, true, true, true, true, true, false, false, false, false, false, false, false, false, false, false] rfl rfl (by kernel_rfl) (fun _ _ _ h => h) (Or.inl ⟨by rfl, ?_⟩) ?_ ?_
  rotate_left
  · intro w'
    go_simp
    with_reducible rfl
  rotate_left
  · simp only [Act.put, List.setIfInBounds_toArray, List.set_cons_zero, List.set_cons_succ]
    rfl
  refine pure_ (i := 12) (N := some 15) (v := ?_) (a' := ?_) #[true, true, true, true, true, true, true, true, true, true, true, true, true, false, false, false, false, false, false, false, false, false] rfl rfl (by kernel_rfl) (fun _ _ _ h => h) (Or.inl ⟨by rfl, ?_⟩) ?_ ?_
  rotate_left
  · intro w'
    go_simp
    with_reducible rfl
  rotate_left
  · simp only [Act.put, List.setIfInBounds_toArray, List.set_cons_zero, List.set_cons_succ]
    rfl
  refine take_ (i := 13) (N := some 16) (v := .pointer (some ⟨r.gq, 0, none⟩)) #[true, true, true, true, true, true, true, true, true, true, true, true, true, true, false, false, false, false, false, false, false, false] rfl rfl (by kernel_rfl) (fun _ _ _ h => h) (Or.inl ⟨by rfl, ?_⟩) ?_ (a' := ?_) ?_ ?_
  · intro w' hS
    have hx : w'.cell? ⟨r.g, 0, none⟩ = some (.pointer (some ⟨r.gq, 0, none⟩)) := (hS.cell (p := ⟨r.g, 0, none⟩) (blk_lt H.out.1)).trans ((blk_cell H.out.1 0).trans rfl)
    go_simp
  · exact Hs.out
  rotate_left
  · simp only [Act.put, List.setIfInBounds_toArray, List.set_cons_zero, List.set_cons_succ]
    rfl
  refine pure_ (i := 14) (N := some 17) (v := ?_) (a' := ?_) #[true, true, true, true, true, true, true, true, true, true, true, true, true, true, true, false, false, false, false, false, false, false] rfl rfl (by kernel_rfl) (fun _ _ _ h => h) (Or.inl ⟨by rfl, ?_⟩) ?_ ?_
  rotate_left
  · intro w'
    go_simp
    with_reducible rfl
  rotate_left
  · simp only [Act.put, List.setIfInBounds_toArray, List.set_cons_zero, List.set_cons_succ]
    rfl
  refine pure_ (i := 15) (N := some 18) (v := ?_) (a' := ?_) #[true, true, true, true, true, true, true, true, true, true, true, true, true, true, true, true, false, false, false, false, false, false] rfl rfl (by kernel_rfl) (fun _ _ _ h => h) (Or.inl ⟨by rfl, ?_⟩) ?_ ?_
  rotate_left
  · intro w'
    go_simp
    with_reducible rfl
  rotate_left
  · simp only [Act.put, List.setIfInBounds_toArray, List.set_cons_zero, List.set_cons_succ]
    rfl
  refine pure_ (i := 16) (N := some 19) (v := ?_) (a' := ?_) #[true, true, true, true, true, true, true, true, true, true, true, true, true, true, true, true, true, false, false, false, false, false] rfl rfl (by kernel_rfl) (fun _ _ _ h => h) (Or.inl ⟨by rfl, ?_⟩) ?_ ?_
  rotate_left
  · intro w'
    go_simp
    with_reducible rfl
  rotate_left
  · simp only [Act.put, List.setIfInBounds_toArray, List.set_cons_zero, List.set_cons_succ]
    rfl
  refine take_ (i := 17) (N := some 20) (v := .int .i64 W) #[true, true, true, true, true, true, true, true, true, true, true, true, true, true, true, true, true, true, false, false, false, false] rfl rfl (by kernel_rfl) (fun _ _ _ h => h) (Or.inl ⟨by rfl, ?_⟩) ?_ (a' := ?_) ?_ ?_
  · intro w' hS
    have hx : w'.cell? ⟨r.g, 2, none⟩ = some (.int .i64 W) := (hS.cell (p := ⟨r.g, 2, none⟩) (blk_lt H.out.1)).trans ((blk_cell H.out.1 2).trans rfl)
    go_simp
  · exact Hs.out
  rotate_left
  · simp only [Act.put, List.setIfInBounds_toArray, List.set_cons_zero, List.set_cons_succ]
    rfl
  refine one_ (i := 18) (N := some 21) #[true, true, true, true, true, true, true, true, true, true, true, true, true, true, true, true, true, true, true, false, false, false] rfl rfl (by kernel_rfl) (by decide) (fun K hK => ?_)
  refine call_ 46 _ (by rfl) rfl (by go_simp; rfl) ?_
  refine (rbudget_at (H.out.below Hs.out) HF.out HG.out HB.out).mono ?_
  rintro e wn ⟨rfl, hB⟩
  refine ⟨_, rfl, ?_⟩
  refine hK.out _ _ (below_step Hs.out hB) (fun hs => ?_)
  clear hK K hB Hs
  have Hs := Aside0.mk hs
  clear hs
  refine norm_ (a' := ?_) ?_ ?_
  rotate_left
  · show Act.put _ (some 21) _ = _
    simp only [Act.put, List.setIfInBounds_toArray, List.set_cons_zero, List.set_cons_succ]
    rfl
  refine pure_ (i := 19) (N := some 22) (v := ?_) (a' := ?_) #[true, true, true, true, true, true, true, true, true, true, true, true, true, true, true, true, true, true, true, true, false, false] rfl rfl (by kernel_rfl) (fun _ _ _ h => h) (Or.inl ⟨by rfl, ?_⟩) ?_ ?_
  rotate_left
  · intro w'
    go_simp
    with_reducible rfl
  rotate_left
  · simp only [Act.put, List.setIfInBounds_toArray, List.set_cons_zero, List.set_cons_succ]
    rfl
  refine pure_ (i := 20) (N := some 23) (v := ?_) (a' := ?_) #[true, true, true, true, true, true, true, true, true, true, true, true, true, true, true, true, true, true, true, true, true, false] rfl rfl (by kernel_rfl) (fun _ _ _ h => h) (Or.inl ⟨by rfl, ?_⟩) ?_ ?_
  rotate_left
  · intro w'
    go_simp
    with_reducible rfl
  rotate_left
  · simp only [Act.put, List.setIfInBounds_toArray, List.set_cons_zero, List.set_cons_succ]
    rfl
  refine pure_ (i := 21) (N := some 2) (v := ?_) (a' := ?_) #[true, true, true, true, true, true, true, true, true, true, true, true, true, true, true, true, true, true, true, true, true, true] rfl rfl (by kernel_rfl) (fun _ _ _ h => h) (Or.inl ⟨by rfl, ?_⟩) ?_ ?_
  rotate_left
  · intro w'
    go_simp
    with_reducible rfl
  rotate_left
  · simp only [Act.put, List.setIfInBounds_toArray, List.set_cons_zero, List.set_cons_succ]
    rfl
  refine done_ (by kernel_rfl) ?_
  have HB3 := Hs
  clear Hs
  go_wp2_with fail
  go_ret
  exact ⟨rfl, HB3.out⟩
set_option maxHeartbeats 3200000 in
set_option maxRecDepth 100000 in
theorem rmay_out (h : RRaw w r M G l T (-1) J U La) : Calls Try.prog 39 #[.pointer (some ⟨r.g, 0, none⟩)] w fun e w' => e = .returned (.bool false) ∧ ∃ m, w' = w.drewN m := by
  have c2 : w.cell? ⟨r.g, 2, none⟩ = some (.int .i64 (-1)) := (blk_cell h.1 2).trans rfl
  clear h
  go_enter Try.func39, Try.ntmps39
  go_wp2_with fail
  go_quiet (fail)
  go_wp2_with fail
  go_ret
  exact ⟨rfl, _, rfl⟩
theorem renter_in (h : RRaw w r M G l T W J U La) (hW : 0 ≤ W) : Calls Try.prog 18 #[.pointer (some ⟨r.g, 0, none⟩)] w fun e w' => e = .returned (.tuple #[.int .i64 0, .int .i64 0, .int .i64 8]) ∧ w' = w := by
  have c2 : w.cell? ⟨r.g, 2, none⟩ = some (.int .i64 W) := (blk_cell h.1 2).trans rfl
  have d : decide (0 ≤ W) = true := decide_eq_true hW
  clear h
  go_enter Try.func18, Try.ntmps18
  go_wp2_with fail
  go_ret3
  exact ⟨rfl, rfl⟩
set_option maxHeartbeats 3200000 in
set_option maxRecDepth 100000 in
theorem renter_none (j i : Int) (h : RRaw w r M G l T (-1) J U La) (hF : Aside0 (Fit M l)) (hN : Aside0 (nextR M l T = (j, i, 2))) :
    Calls Try.prog 18 #[.pointer (some ⟨r.g, 0, none⟩)] w fun e w' => e = .returned (.tuple #[.int .i64 0, .int .i64 0, .int .i64 2]) ∧ Below w.heap.size w w' := by
  have c2 : w.cell? ⟨r.g, 2, none⟩ = some (.int .i64 (-1)) := (blk_cell h.1 2).trans rfl
  have H := Aside0.mk h
  clear h
  go_enter Try.func18, Try.ntmps18
  go_wp2_with fail
  have Hs0 := Aside0.mk (below_drew1 (Below.refl w.heap.size w))
  refine start_ (n := 16) (S := fun w' => Below w.heap.size w w') (ds := []) #[false, false, false, false, false, false, false, false, false, false, false, false, false, false, false, false] (by kernel_rfl) rfl rfl Hs0.out (fun hs => ?_)
  have Hs := Aside0.mk hs
  clear hs Hs0
  refine pure_ (i := 0) (N := some 15) (v := ?_) (a' := ?_) #[true, false, false, false, false, false, false, false, false, false, false, false, false, false, false, false] rfl rfl (by kernel_rfl) (fun _ _ _ h => h) (Or.inl ⟨by rfl, ?_⟩) ?_ ?_
  rotate_left
  · intro w'
    go_simp
    with_reducible rfl
  rotate_left
  · simp only [Act.put, List.setIfInBounds_toArray, List.set_cons_zero, List.set_cons_succ]
    rfl
  refine pure_ (i := 1) (N := some 16) (v := ?_) (a' := ?_) #[true, true, false, false, false, false, false, false, false, false, false, false, false, false, false, false] rfl rfl (by kernel_rfl) (fun _ _ _ h => h) (Or.inl ⟨by rfl, ?_⟩) ?_ ?_
  rotate_left
  · intro w'
    go_simp
    with_reducible rfl
  rotate_left
  · simp only [Act.put, List.setIfInBounds_toArray, List.set_cons_zero, List.set_cons_succ]
    rfl
  refine pure_ (i := 2) (N := some 17) (v := ?_) (a' := ?_) #[true, true, true, false, false, false, false, false, false, false, false, false, false, false, false, false] rfl rfl (by kernel_rfl) (fun _ _ _ h => h) (Or.inl ⟨by rfl, ?_⟩) ?_ ?_
  rotate_left
  · intro w'
    go_simp
    with_reducible rfl
  rotate_left
  · simp only [Act.put, List.setIfInBounds_toArray, List.set_cons_zero, List.set_cons_succ]
    rfl
  refine take_ (i := 3) (N := some 18) (v := .pointer (some ⟨r.gq, 0, none⟩)) #[true, true, true, true, false, false, false, false, false, false, false, false, false, false, false, false] rfl rfl (by kernel_rfl) (fun _ _ _ h => h) (Or.inl ⟨by rfl, ?_⟩) ?_ (a' := ?_) ?_ ?_
  · intro w' hS
    have hx : w'.cell? ⟨r.g, 0, none⟩ = some (.pointer (some ⟨r.gq, 0, none⟩)) := (hS.cell (p := ⟨r.g, 0, none⟩) (blk_lt H.out.1)).trans ((blk_cell H.out.1 0).trans rfl)
    go_simp
  · exact Hs.out
  rotate_left
  · simp only [Act.put, List.setIfInBounds_toArray, List.set_cons_zero, List.set_cons_succ]
    rfl
  refine pure_ (i := 4) (N := some 19) (v := ?_) (a' := ?_) #[true, true, true, true, true, false, false, false, false, false, false, false, false, false, false, false] rfl rfl (by kernel_rfl) (fun _ _ _ h => h) (Or.inl ⟨by rfl, ?_⟩) ?_ ?_
  rotate_left
  · intro w'
    go_simp
    with_reducible rfl
  rotate_left
  · simp only [Act.put, List.setIfInBounds_toArray, List.set_cons_zero, List.set_cons_succ]
    rfl
  refine pure_ (i := 5) (N := some 20) (v := ?_) (a' := ?_) #[true, true, true, true, true, true, false, false, false, false, false, false, false, false, false, false] rfl rfl (by kernel_rfl) (fun _ _ _ h => h) (Or.inl ⟨by rfl, ?_⟩) ?_ ?_
  rotate_left
  · intro w'
    go_simp
    with_reducible rfl
  rotate_left
  · simp only [Act.put, List.setIfInBounds_toArray, List.set_cons_zero, List.set_cons_succ]
    rfl
  refine pure_ (i := 6) (N := some 21) (v := ?_) (a' := ?_) #[true, true, true, true, true, true, true, false, false, false, false, false, false, false, false, false] rfl rfl (by kernel_rfl) (fun _ _ _ h => h) (Or.inl ⟨by rfl, ?_⟩) ?_ ?_
  rotate_left
  · intro w'
    go_simp
    with_reducible rfl
  rotate_left
  · simp only [Act.put, List.setIfInBounds_toArray, List.set_cons_zero, List.set_cons_succ]
    rfl
  refine take_ (i := 7) (N := some 22) (v := .int .i64 T) #[true, true, true, true, true, true, true, true, false, false, false, false, false, false, false, false] rfl rfl (by kernel_rfl) (fun _ _ _ h => h) (Or.inl ⟨by rfl, ?_⟩) ?_ (a' := ?_) ?_ ?_
  · intro w' hS
    have hx : w'.cell? ⟨r.g, 1, none⟩ = some (.int .i64 T) := (hS.cell (p := ⟨r.g, 1, none⟩) (blk_lt H.out.1)).trans ((blk_cell H.out.1 1).trans rfl)
    go_simp
  · exact Hs.out
  rotate_left
  · simp only [Act.put, List.setIfInBounds_toArray, List.set_cons_zero, List.set_cons_succ]
    rfl
  refine one_ (i := 8) (N := some 23) #[true, true, true, true, true, true, true, true, true, false, false, false, false, false, false, false] rfl rfl (by kernel_rfl) (by decide) (fun K hK => ?_)
  refine call_ 37 _ (by rfl) rfl (by go_simp; rfl) ?_
  refine (rnext_at (H.out.below Hs.out) hF.out hN.out).mono ?_
  rintro e wn ⟨rfl, hB⟩
  refine ⟨_, rfl, ?_⟩
  refine hK.out _ _ (below_step Hs.out hB) (fun hs => ?_)
  clear hK K hB Hs
  have Hs := Aside0.mk hs
  clear hs
  refine norm_ (a' := ?_) ?_ ?_
  rotate_left
  · show Act.put _ (some 23) _ = _
    simp only [Act.put, List.setIfInBounds_toArray, List.set_cons_zero, List.set_cons_succ]
    rfl
  refine pure_ (i := 9) (N := some 14) (v := ?_) (a' := ?_) #[true, true, true, true, true, true, true, true, true, true, false, false, false, false, false, false] rfl rfl (by kernel_rfl) (fun _ _ _ h => h) (Or.inl ⟨by rfl, ?_⟩) ?_ ?_
  rotate_left
  · intro w'
    go_simp
    with_reducible rfl
  rotate_left
  · simp only [Act.put, List.setIfInBounds_toArray, List.set_cons_zero, List.set_cons_succ]
    rfl
  refine pure_ (i := 10) (N := some 24) (v := ?_) (a' := ?_) #[true, true, true, true, true, true, true, true, true, true, true, false, false, false, false, false] rfl rfl (by kernel_rfl) (fun _ _ _ h => h) (Or.inl ⟨by rfl, ?_⟩) ?_ ?_
  rotate_left
  · intro w'
    go_simp
    with_reducible rfl
  rotate_left
  · simp only [Act.put, List.setIfInBounds_toArray, List.set_cons_zero, List.set_cons_succ]
    rfl
  refine pure_ (i := 11) (N := some 25) (v := ?_) (a' := ?_) #[true, true, true, true, true, true, true, true, true, true, true, true, false, false, false, false] rfl rfl (by kernel_rfl) (fun _ _ _ h => h) (Or.inl ⟨by rfl, ?_⟩) ?_ ?_
  rotate_left
  · intro w'
    go_simp
    with_reducible rfl
  rotate_left
  · simp only [Act.put, List.setIfInBounds_toArray, List.set_cons_zero, List.set_cons_succ]
    rfl
  refine pure_ (i := 12) (N := some 26) (v := ?_) (a' := ?_) #[true, true, true, true, true, true, true, true, true, true, true, true, true, false, false, false] rfl rfl (by kernel_rfl) (fun _ _ _ h => h) (Or.inl ⟨by rfl, ?_⟩) ?_ ?_
  rotate_left
  · intro w'
    go_simp
    with_reducible rfl
  rotate_left
  · simp only [Act.put, List.setIfInBounds_toArray, List.set_cons_zero, List.set_cons_succ]
    rfl
  refine pure_ (i := 13) (N := some 5) (v := ?_) (a' := ?_) #[true, true, true, true, true, true, true, true, true, true, true, true, true, true, false, false] rfl rfl (by kernel_rfl) (fun _ _ _ h => h) (Or.inl ⟨by rfl, ?_⟩) ?_ ?_
  rotate_left
  · intro w'
    go_simp
    with_reducible rfl
  rotate_left
  · simp only [Act.put, List.setIfInBounds_toArray, List.set_cons_zero, List.set_cons_succ]
    rfl
  refine pure_ (i := 14) (N := some 6) (v := ?_) (a' := ?_) #[true, true, true, true, true, true, true, true, true, true, true, true, true, true, true, false] rfl rfl (by kernel_rfl) (fun _ _ _ h => h) (Or.inl ⟨by rfl, ?_⟩) ?_ ?_
  rotate_left
  · intro w'
    go_simp
    with_reducible rfl
  rotate_left
  · simp only [Act.put, List.setIfInBounds_toArray, List.set_cons_zero, List.set_cons_succ]
    rfl
  refine pure_ (i := 15) (N := some 7) (v := ?_) (a' := ?_) #[true, true, true, true, true, true, true, true, true, true, true, true, true, true, true, true] rfl rfl (by kernel_rfl) (fun _ _ _ h => h) (Or.inl ⟨by rfl, ?_⟩) ?_ ?_
  rotate_left
  · intro w'
    go_simp
    with_reducible rfl
  rotate_left
  · simp only [Act.put, List.setIfInBounds_toArray, List.set_cons_zero, List.set_cons_succ]
    rfl
  refine done_ (by kernel_rfl) ?_
  have H3 := Aside0.mk (H.out.below Hs.out)
  have HB3 := Hs
  generalize wn = w3 at *
  clear Hs c2
  go_wp2_with fail
  go_ret3
  exact ⟨rfl, HB3.out⟩
set_option maxHeartbeats 3200000 in
set_option maxRecDepth 100000 in
theorem renter_bad (n : Nat) (j s : Int) (h : RRaw w r M G l T (-1) J U La) (hF : Aside0 (Fit M l)) (hN : Aside0 (nextR M l T = (j, (n : Int), 0))) (hS : Aside0 (startS M l j n = (s, 2))) :
    Calls Try.prog 18 #[.pointer (some ⟨r.g, 0, none⟩)] w fun e w' => e = .returned (.tuple #[.int .i64 0, .int .i64 0, .int .i64 2]) ∧ Below w.heap.size w w' := by
  have c2 : w.cell? ⟨r.g, 2, none⟩ = some (.int .i64 (-1)) := (blk_cell h.1 2).trans rfl
  have H := Aside0.mk h
  clear h
  go_enter Try.func18, Try.ntmps18
  go_wp2_with fail
  have Hs0 := Aside0.mk (below_drew1 (Below.refl w.heap.size w))
  refine start_ (n := 16) (S := fun w' => Below w.heap.size w w') (ds := []) #[false, false, false, false, false, false, false, false, false, false, false, false, false, false, false, false] (by kernel_rfl) rfl rfl Hs0.out (fun hs => ?_)
  have Hs := Aside0.mk hs
  clear hs Hs0
  refine pure_ (i := 0) (N := some 15) (v := ?_) (a' := ?_) #[true, false, false, false, false, false, false, false, false, false, false, false, false, false, false, false] rfl rfl (by kernel_rfl) (fun _ _ _ h => h) (Or.inl ⟨by rfl, ?_⟩) ?_ ?_
  rotate_left
  · intro w'
    go_simp
    with_reducible rfl
  rotate_left
  · simp only [Act.put, List.setIfInBounds_toArray, List.set_cons_zero, List.set_cons_succ]
    rfl
  refine pure_ (i := 1) (N := some 16) (v := ?_) (a' := ?_) #[true, true, false, false, false, false, false, false, false, false, false, false, false, false, false, false] rfl rfl (by kernel_rfl) (fun _ _ _ h => h) (Or.inl ⟨by rfl, ?_⟩) ?_ ?_
  rotate_left
  · intro w'
    go_simp
    with_reducible rfl
  rotate_left
  · simp only [Act.put, List.setIfInBounds_toArray, List.set_cons_zero, List.set_cons_succ]
    rfl
  refine pure_ (i := 2) (N := some 17) (v := ?_) (a' := ?_) #[true, true, true, false, false, false, false, false, false, false, false, false, false, false, false, false] rfl rfl (by kernel_rfl) (fun _ _ _ h => h) (Or.inl ⟨by rfl, ?_⟩) ?_ ?_
  rotate_left
  · intro w'
    go_simp
    with_reducible rfl
  rotate_left
  · simp only [Act.put, List.setIfInBounds_toArray, List.set_cons_zero, List.set_cons_succ]
    rfl
  refine take_ (i := 3) (N := some 18) (v := .pointer (some ⟨r.gq, 0, none⟩)) #[true, true, true, true, false, false, false, false, false, false, false, false, false, false, false, false] rfl rfl (by kernel_rfl) (fun _ _ _ h => h) (Or.inl ⟨by rfl, ?_⟩) ?_ (a' := ?_) ?_ ?_
  · intro w' hS
    have hx : w'.cell? ⟨r.g, 0, none⟩ = some (.pointer (some ⟨r.gq, 0, none⟩)) := (hS.cell (p := ⟨r.g, 0, none⟩) (blk_lt H.out.1)).trans ((blk_cell H.out.1 0).trans rfl)
    go_simp
  · exact Hs.out
  rotate_left
  · simp only [Act.put, List.setIfInBounds_toArray, List.set_cons_zero, List.set_cons_succ]
    rfl
  refine pure_ (i := 4) (N := some 19) (v := ?_) (a' := ?_) #[true, true, true, true, true, false, false, false, false, false, false, false, false, false, false, false] rfl rfl (by kernel_rfl) (fun _ _ _ h => h) (Or.inl ⟨by rfl, ?_⟩) ?_ ?_
  rotate_left
  · intro w'
    go_simp
    with_reducible rfl
  rotate_left
  · simp only [Act.put, List.setIfInBounds_toArray, List.set_cons_zero, List.set_cons_succ]
    rfl
  refine pure_ (i := 5) (N := some 20) (v := ?_) (a' := ?_) #[true, true, true, true, true, true, false, false, false, false, false, false, false, false, false, false] rfl rfl (by kernel_rfl) (fun _ _ _ h => h) (Or.inl ⟨by rfl, ?_⟩) ?_ ?_
  rotate_left
  · intro w'
    go_simp
    with_reducible rfl
  rotate_left
  · simp only [Act.put, List.setIfInBounds_toArray, List.set_cons_zero, List.set_cons_succ]
    rfl
  refine pure_ (i := 6) (N := some 21) (v := ?_) (a' := ?_) #[true, true, true, true, true, true, true, false, false, false, false, false, false, false, false, false] rfl rfl (by kernel_rfl) (fun _ _ _ h => h) (Or.inl ⟨by rfl, ?_⟩) ?_ ?_
  rotate_left
  · intro w'
    go_simp
    with_reducible rfl
  rotate_left
  · simp only [Act.put, List.setIfInBounds_toArray, List.set_cons_zero, List.set_cons_succ]
    rfl
  refine take_ (i := 7) (N := some 22) (v := .int .i64 T) #[true, true, true, true, true, true, true, true, false, false, false, false, false, false, false, false] rfl rfl (by kernel_rfl) (fun _ _ _ h => h) (Or.inl ⟨by rfl, ?_⟩) ?_ (a' := ?_) ?_ ?_
  · intro w' hS
    have hx : w'.cell? ⟨r.g, 1, none⟩ = some (.int .i64 T) := (hS.cell (p := ⟨r.g, 1, none⟩) (blk_lt H.out.1)).trans ((blk_cell H.out.1 1).trans rfl)
    go_simp
  · exact Hs.out
  rotate_left
  · simp only [Act.put, List.setIfInBounds_toArray, List.set_cons_zero, List.set_cons_succ]
    rfl
  refine one_ (i := 8) (N := some 23) #[true, true, true, true, true, true, true, true, true, false, false, false, false, false, false, false] rfl rfl (by kernel_rfl) (by decide) (fun K hK => ?_)
  refine call_ 37 _ (by rfl) rfl (by go_simp; rfl) ?_
  refine (rnext_at (H.out.below Hs.out) hF.out hN.out).mono ?_
  rintro e wn ⟨rfl, hB⟩
  refine ⟨_, rfl, ?_⟩
  refine hK.out _ _ (below_step Hs.out hB) (fun hs => ?_)
  clear hK K hB Hs
  have Hs := Aside0.mk hs
  clear hs
  refine norm_ (a' := ?_) ?_ ?_
  rotate_left
  · show Act.put _ (some 23) _ = _
    simp only [Act.put, List.setIfInBounds_toArray, List.set_cons_zero, List.set_cons_succ]
    rfl
  refine pure_ (i := 9) (N := some 14) (v := ?_) (a' := ?_) #[true, true, true, true, true, true, true, true, true, true, false, false, false, false, false, false] rfl rfl (by kernel_rfl) (fun _ _ _ h => h) (Or.inl ⟨by rfl, ?_⟩) ?_ ?_
  rotate_left
  · intro w'
    go_simp
    with_reducible rfl
  rotate_left
  · simp only [Act.put, List.setIfInBounds_toArray, List.set_cons_zero, List.set_cons_succ]
    rfl
  refine pure_ (i := 10) (N := some 24) (v := ?_) (a' := ?_) #[true, true, true, true, true, true, true, true, true, true, true, false, false, false, false, false] rfl rfl (by kernel_rfl) (fun _ _ _ h => h) (Or.inl ⟨by rfl, ?_⟩) ?_ ?_
  rotate_left
  · intro w'
    go_simp
    with_reducible rfl
  rotate_left
  · simp only [Act.put, List.setIfInBounds_toArray, List.set_cons_zero, List.set_cons_succ]
    rfl
  refine pure_ (i := 11) (N := some 25) (v := ?_) (a' := ?_) #[true, true, true, true, true, true, true, true, true, true, true, true, false, false, false, false] rfl rfl (by kernel_rfl) (fun _ _ _ h => h) (Or.inl ⟨by rfl, ?_⟩) ?_ ?_
  rotate_left
  · intro w'
    go_simp
    with_reducible rfl
  rotate_left
  · simp only [Act.put, List.setIfInBounds_toArray, List.set_cons_zero, List.set_cons_succ]
    rfl
  refine pure_ (i := 12) (N := some 26) (v := ?_) (a' := ?_) #[true, true, true, true, true, true, true, true, true, true, true, true, true, false, false, false] rfl rfl (by kernel_rfl) (fun _ _ _ h => h) (Or.inl ⟨by rfl, ?_⟩) ?_ ?_
  rotate_left
  · intro w'
    go_simp
    with_reducible rfl
  rotate_left
  · simp only [Act.put, List.setIfInBounds_toArray, List.set_cons_zero, List.set_cons_succ]
    rfl
  refine pure_ (i := 13) (N := some 5) (v := ?_) (a' := ?_) #[true, true, true, true, true, true, true, true, true, true, true, true, true, true, false, false] rfl rfl (by kernel_rfl) (fun _ _ _ h => h) (Or.inl ⟨by rfl, ?_⟩) ?_ ?_
  rotate_left
  · intro w'
    go_simp
    with_reducible rfl
  rotate_left
  · simp only [Act.put, List.setIfInBounds_toArray, List.set_cons_zero, List.set_cons_succ]
    rfl
  refine pure_ (i := 14) (N := some 6) (v := ?_) (a' := ?_) #[true, true, true, true, true, true, true, true, true, true, true, true, true, true, true, false] rfl rfl (by kernel_rfl) (fun _ _ _ h => h) (Or.inl ⟨by rfl, ?_⟩) ?_ ?_
  rotate_left
  · intro w'
    go_simp
    with_reducible rfl
  rotate_left
  · simp only [Act.put, List.setIfInBounds_toArray, List.set_cons_zero, List.set_cons_succ]
    rfl
  refine pure_ (i := 15) (N := some 7) (v := ?_) (a' := ?_) #[true, true, true, true, true, true, true, true, true, true, true, true, true, true, true, true] rfl rfl (by kernel_rfl) (fun _ _ _ h => h) (Or.inl ⟨by rfl, ?_⟩) ?_ ?_
  rotate_left
  · intro w'
    go_simp
    with_reducible rfl
  rotate_left
  · simp only [Act.put, List.setIfInBounds_toArray, List.set_cons_zero, List.set_cons_succ]
    rfl
  refine done_ (by kernel_rfl) ?_
  have H3 := Aside0.mk (H.out.below Hs.out)
  have HB3 := Hs
  generalize wn = w3 at *
  clear Hs c2
  have c0 : w3.cell? ⟨r.g, 0, none⟩ = some (.pointer (some ⟨r.gq, 0, none⟩)) := (blk_cell H3.out.1 0).trans rfl
  go_wp2_with fail
  refine (rstart_at H3.out hF.out hS.out).mono ?_
  rintro e w4 ⟨rfl, hB⟩
  have HB4 := Aside0.mk (below_step HB3.out hB)
  clear hB c0
  go_wp2_with fail
  go_ret3
  exact ⟨rfl, HB4.out⟩
set_option maxHeartbeats 3200000 in
set_option maxRecDepth 100000 in
theorem renter_late (n : Nat) (j s y : Int) (h : RRaw w r M G l T (-1) J U La) (hF : Aside0 (Fit M l)) (hN : Aside0 (nextR M l T = (j, (n : Int), 0))) (hn : Aside0 (n < l.length)) (hS : Aside0 (startS M l j n = (s, 0))) (hy : Aside0 ((rd_T45 l (n : Int)).f2 = y)) (y0 : 0 ≤ y ∧ y ≤ 281474976710656) (hl : 281474976710656 - y < s) :
    Calls Try.prog 18 #[.pointer (some ⟨r.g, 0, none⟩)] w fun e w' => e = .returned (.tuple #[.int .i64 0, .int .i64 0, .int .i64 2]) ∧ Below w.heap.size w w' := by
  have z1 : wrap64 (281474976710656 - y) = 281474976710656 - y := w64 (by omega) (by omega)
  have z2 : decide (281474976710656 - y < s) = true := decide_eq_true (by omega)
  have c2 : w.cell? ⟨r.g, 2, none⟩ = some (.int .i64 (-1)) := (blk_cell h.1 2).trans rfl
  have H := Aside0.mk h
  clear h
  go_enter Try.func18, Try.ntmps18
  go_wp2_with fail
  have Hs0 := Aside0.mk (below_drew1 (Below.refl w.heap.size w))
  refine start_ (n := 16) (S := fun w' => Below w.heap.size w w') (ds := []) #[false, false, false, false, false, false, false, false, false, false, false, false, false, false, false, false] (by kernel_rfl) rfl rfl Hs0.out (fun hs => ?_)
  have Hs := Aside0.mk hs
  clear hs Hs0
  refine pure_ (i := 0) (N := some 15) (v := ?_) (a' := ?_) #[true, false, false, false, false, false, false, false, false, false, false, false, false, false, false, false] rfl rfl (by kernel_rfl) (fun _ _ _ h => h) (Or.inl ⟨by rfl, ?_⟩) ?_ ?_
  rotate_left
  · intro w'
    go_simp
    with_reducible rfl
  rotate_left
  · simp only [Act.put, List.setIfInBounds_toArray, List.set_cons_zero, List.set_cons_succ]
    rfl
  refine pure_ (i := 1) (N := some 16) (v := ?_) (a' := ?_) #[true, true, false, false, false, false, false, false, false, false, false, false, false, false, false, false] rfl rfl (by kernel_rfl) (fun _ _ _ h => h) (Or.inl ⟨by rfl, ?_⟩) ?_ ?_
  rotate_left
  · intro w'
    go_simp
    with_reducible rfl
  rotate_left
  · simp only [Act.put, List.setIfInBounds_toArray, List.set_cons_zero, List.set_cons_succ]
    rfl
  refine pure_ (i := 2) (N := some 17) (v := ?_) (a' := ?_) #[true, true, true, false, false, false, false, false, false, false, false, false, false, false, false, false] rfl rfl (by kernel_rfl) (fun _ _ _ h => h) (Or.inl ⟨by rfl, ?_⟩) ?_ ?_
  rotate_left
  · intro w'
    go_simp
    with_reducible rfl
  rotate_left
  · simp only [Act.put, List.setIfInBounds_toArray, List.set_cons_zero, List.set_cons_succ]
    rfl
  refine take_ (i := 3) (N := some 18) (v := .pointer (some ⟨r.gq, 0, none⟩)) #[true, true, true, true, false, false, false, false, false, false, false, false, false, false, false, false] rfl rfl (by kernel_rfl) (fun _ _ _ h => h) (Or.inl ⟨by rfl, ?_⟩) ?_ (a' := ?_) ?_ ?_
  · intro w' hS
    have hx : w'.cell? ⟨r.g, 0, none⟩ = some (.pointer (some ⟨r.gq, 0, none⟩)) := (hS.cell (p := ⟨r.g, 0, none⟩) (blk_lt H.out.1)).trans ((blk_cell H.out.1 0).trans rfl)
    go_simp
  · exact Hs.out
  rotate_left
  · simp only [Act.put, List.setIfInBounds_toArray, List.set_cons_zero, List.set_cons_succ]
    rfl
  refine pure_ (i := 4) (N := some 19) (v := ?_) (a' := ?_) #[true, true, true, true, true, false, false, false, false, false, false, false, false, false, false, false] rfl rfl (by kernel_rfl) (fun _ _ _ h => h) (Or.inl ⟨by rfl, ?_⟩) ?_ ?_
  rotate_left
  · intro w'
    go_simp
    with_reducible rfl
  rotate_left
  · simp only [Act.put, List.setIfInBounds_toArray, List.set_cons_zero, List.set_cons_succ]
    rfl
  refine pure_ (i := 5) (N := some 20) (v := ?_) (a' := ?_) #[true, true, true, true, true, true, false, false, false, false, false, false, false, false, false, false] rfl rfl (by kernel_rfl) (fun _ _ _ h => h) (Or.inl ⟨by rfl, ?_⟩) ?_ ?_
  rotate_left
  · intro w'
    go_simp
    with_reducible rfl
  rotate_left
  · simp only [Act.put, List.setIfInBounds_toArray, List.set_cons_zero, List.set_cons_succ]
    rfl
  refine pure_ (i := 6) (N := some 21) (v := ?_) (a' := ?_) #[true, true, true, true, true, true, true, false, false, false, false, false, false, false, false, false] rfl rfl (by kernel_rfl) (fun _ _ _ h => h) (Or.inl ⟨by rfl, ?_⟩) ?_ ?_
  rotate_left
  · intro w'
    go_simp
    with_reducible rfl
  rotate_left
  · simp only [Act.put, List.setIfInBounds_toArray, List.set_cons_zero, List.set_cons_succ]
    rfl
  refine take_ (i := 7) (N := some 22) (v := .int .i64 T) #[true, true, true, true, true, true, true, true, false, false, false, false, false, false, false, false] rfl rfl (by kernel_rfl) (fun _ _ _ h => h) (Or.inl ⟨by rfl, ?_⟩) ?_ (a' := ?_) ?_ ?_
  · intro w' hS
    have hx : w'.cell? ⟨r.g, 1, none⟩ = some (.int .i64 T) := (hS.cell (p := ⟨r.g, 1, none⟩) (blk_lt H.out.1)).trans ((blk_cell H.out.1 1).trans rfl)
    go_simp
  · exact Hs.out
  rotate_left
  · simp only [Act.put, List.setIfInBounds_toArray, List.set_cons_zero, List.set_cons_succ]
    rfl
  refine one_ (i := 8) (N := some 23) #[true, true, true, true, true, true, true, true, true, false, false, false, false, false, false, false] rfl rfl (by kernel_rfl) (by decide) (fun K hK => ?_)
  refine call_ 37 _ (by rfl) rfl (by go_simp; rfl) ?_
  refine (rnext_at (H.out.below Hs.out) hF.out hN.out).mono ?_
  rintro e wn ⟨rfl, hB⟩
  refine ⟨_, rfl, ?_⟩
  refine hK.out _ _ (below_step Hs.out hB) (fun hs => ?_)
  clear hK K hB Hs
  have Hs := Aside0.mk hs
  clear hs
  refine norm_ (a' := ?_) ?_ ?_
  rotate_left
  · show Act.put _ (some 23) _ = _
    simp only [Act.put, List.setIfInBounds_toArray, List.set_cons_zero, List.set_cons_succ]
    rfl
  refine pure_ (i := 9) (N := some 14) (v := ?_) (a' := ?_) #[true, true, true, true, true, true, true, true, true, true, false, false, false, false, false, false] rfl rfl (by kernel_rfl) (fun _ _ _ h => h) (Or.inl ⟨by rfl, ?_⟩) ?_ ?_
  rotate_left
  · intro w'
    go_simp
    with_reducible rfl
  rotate_left
  · simp only [Act.put, List.setIfInBounds_toArray, List.set_cons_zero, List.set_cons_succ]
    rfl
  refine pure_ (i := 10) (N := some 24) (v := ?_) (a' := ?_) #[true, true, true, true, true, true, true, true, true, true, true, false, false, false, false, false] rfl rfl (by kernel_rfl) (fun _ _ _ h => h) (Or.inl ⟨by rfl, ?_⟩) ?_ ?_
  rotate_left
  · intro w'
    go_simp
    with_reducible rfl
  rotate_left
  · simp only [Act.put, List.setIfInBounds_toArray, List.set_cons_zero, List.set_cons_succ]
    rfl
  refine pure_ (i := 11) (N := some 25) (v := ?_) (a' := ?_) #[true, true, true, true, true, true, true, true, true, true, true, true, false, false, false, false] rfl rfl (by kernel_rfl) (fun _ _ _ h => h) (Or.inl ⟨by rfl, ?_⟩) ?_ ?_
  rotate_left
  · intro w'
    go_simp
    with_reducible rfl
  rotate_left
  · simp only [Act.put, List.setIfInBounds_toArray, List.set_cons_zero, List.set_cons_succ]
    rfl
  refine pure_ (i := 12) (N := some 26) (v := ?_) (a' := ?_) #[true, true, true, true, true, true, true, true, true, true, true, true, true, false, false, false] rfl rfl (by kernel_rfl) (fun _ _ _ h => h) (Or.inl ⟨by rfl, ?_⟩) ?_ ?_
  rotate_left
  · intro w'
    go_simp
    with_reducible rfl
  rotate_left
  · simp only [Act.put, List.setIfInBounds_toArray, List.set_cons_zero, List.set_cons_succ]
    rfl
  refine pure_ (i := 13) (N := some 5) (v := ?_) (a' := ?_) #[true, true, true, true, true, true, true, true, true, true, true, true, true, true, false, false] rfl rfl (by kernel_rfl) (fun _ _ _ h => h) (Or.inl ⟨by rfl, ?_⟩) ?_ ?_
  rotate_left
  · intro w'
    go_simp
    with_reducible rfl
  rotate_left
  · simp only [Act.put, List.setIfInBounds_toArray, List.set_cons_zero, List.set_cons_succ]
    rfl
  refine pure_ (i := 14) (N := some 6) (v := ?_) (a' := ?_) #[true, true, true, true, true, true, true, true, true, true, true, true, true, true, true, false] rfl rfl (by kernel_rfl) (fun _ _ _ h => h) (Or.inl ⟨by rfl, ?_⟩) ?_ ?_
  rotate_left
  · intro w'
    go_simp
    with_reducible rfl
  rotate_left
  · simp only [Act.put, List.setIfInBounds_toArray, List.set_cons_zero, List.set_cons_succ]
    rfl
  refine pure_ (i := 15) (N := some 7) (v := ?_) (a' := ?_) #[true, true, true, true, true, true, true, true, true, true, true, true, true, true, true, true] rfl rfl (by kernel_rfl) (fun _ _ _ h => h) (Or.inl ⟨by rfl, ?_⟩) ?_ ?_
  rotate_left
  · intro w'
    go_simp
    with_reducible rfl
  rotate_left
  · simp only [Act.put, List.setIfInBounds_toArray, List.set_cons_zero, List.set_cons_succ]
    rfl
  refine done_ (by kernel_rfl) ?_
  have H3 := Aside0.mk (H.out.below Hs.out)
  have HB3 := Hs
  generalize wn = w3 at *
  clear Hs c2
  have c0 : w3.cell? ⟨r.g, 0, none⟩ = some (.pointer (some ⟨r.gq, 0, none⟩)) := (blk_cell H3.out.1 0).trans rfl
  go_wp2_with fail
  refine (rstart_at H3.out hF.out hS.out).mono ?_
  rintro e w4 ⟨rfl, hB⟩
  clear c0
  have H4 := Aside0.mk (H3.out.below hB)
  have c0 : w4.cell? ⟨r.g, 0, none⟩ = some (.pointer (some ⟨r.gq, 0, none⟩)) := (blk_cell H4.out.1 0).trans rfl
  obtain ⟨A, c, hb, hr, hc⟩ := H4.out.2.1.now
  have p2 : w4.cell? ⟨r.gq, 2, none⟩ = some (.slice A l.length c) := (blk_cell hb 2).trans rfl
  obtain ⟨ad, hA, hx0, hx1, hx2⟩ := at_T45 hr (n : Int) (by have := hn.out; omega) (by have := hn.out; omega)
  rw [Int.toNat_natCast] at hx0 hx1 hx2
  rw [hy.out] at hx2
  subst hA
  have i2 : decide ((l.length : Int) ≤ (n : Int)) = false := decide_eq_false (by have := hn.out; omega)
  have i3 : decide (l.length ≤ n) = false := decide_eq_false (by have := hn.out; omega)
  have i4 : decide ((n : Int) < 0) = false := decide_eq_false (by omega)
  have hnl := hn.out
  have HB4 := Aside0.mk (below_step HB3.out hB)
  clear hB hb hr hc hx0 hx1
  go_wp2_with fail
  go_ret3
  exact ⟨rfl, HB4.out⟩
set_option maxHeartbeats 3200000 in
set_option maxRecDepth 100000 in
theorem renter_ok (n : Nat) (j s y bg : Int) (h : RRaw w r M G l T (-1) J U La) (hF : Aside0 (Fit M l)) (hN : Aside0 (nextR M l T = (j, (n : Int), 0))) (hn : Aside0 (n < l.length)) (hS : Aside0 (startS M l j n = (s, 0))) (hy : Aside0 ((rd_T45 l (n : Int)).f2 = y)) (y0 : 0 ≤ y ∧ y ≤ 281474976710656) (hl : s ≤ 281474976710656 - y) (s0 : 0 ≤ s) (hb0 : s + min 40 y = bg) :
    Calls Try.prog 18 #[.pointer (some ⟨r.g, 0, none⟩)] w fun e w' => e = .returned (.tuple #[.int .i64 n, .int .i64 j, .int .i64 0]) ∧ RRaw w' r M G l bg n j 0 La ∧ Moves w w' (fun k => k = r.g) := by
  have z1 : wrap64 (281474976710656 - y) = 281474976710656 - y := w64 (by omega) (by omega)
  have z2 : decide (281474976710656 - y < s) = false := decide_eq_false (by omega)
  have z3 : wrap64 (s + min 40 y) = bg := (w64 (by omega) (by omega)).trans hb0
  have z4 : IntKind.i64.wrap (s + min 40 y) = bg := (i64_w _).trans z3
  have c2 : w.cell? ⟨r.g, 2, none⟩ = some (.int .i64 (-1)) := (blk_cell h.1 2).trans rfl
  have H := Aside0.mk h
  clear h
  go_enter Try.func18, Try.ntmps18
  go_wp2_with fail
  have Hs0 := Aside0.mk (below_drew1 (Below.refl w.heap.size w))
  refine start_ (n := 16) (S := fun w' => Below w.heap.size w w') (ds := []) #[false, false, false, false, false, false, false, false, false, false, false, false, false, false, false, false] (by kernel_rfl) rfl rfl Hs0.out (fun hs => ?_)
  have Hs := Aside0.mk hs
  clear hs Hs0
  refine pure_ (i := 0) (N := some 15) (v := ?_) (a' := ?_) #[true, false, false, false, false, false, false, false, false, false, false, false, false, false, false, false] rfl rfl (by kernel_rfl) (fun _ _ _ h => h) (Or.inl ⟨by rfl, ?_⟩) ?_ ?_
  rotate_left
  · intro w'
    go_simp
    with_reducible rfl
  rotate_left
  · simp only [Act.put, List.setIfInBounds_toArray, List.set_cons_zero, List.set_cons_succ]
    rfl
  refine pure_ (i := 1) (N := some 16) (v := ?_) (a' := ?_) #[true, true, false, false, false, false, false, false, false, false, false, false, false, false, false, false] rfl rfl (by kernel_rfl) (fun _ _ _ h => h) (Or.inl ⟨by rfl, ?_⟩) ?_ ?_
  rotate_left
  · intro w'
    go_simp
    with_reducible rfl
  rotate_left
  · simp only [Act.put, List.setIfInBounds_toArray, List.set_cons_zero, List.set_cons_succ]
    rfl
  refine pure_ (i := 2) (N := some 17) (v := ?_) (a' := ?_) #[true, true, true, false, false, false, false, false, false, false, false, false, false, false, false, false] rfl rfl (by kernel_rfl) (fun _ _ _ h => h) (Or.inl ⟨by rfl, ?_⟩) ?_ ?_
  rotate_left
  · intro w'
    go_simp
    with_reducible rfl
  rotate_left
  · simp only [Act.put, List.setIfInBounds_toArray, List.set_cons_zero, List.set_cons_succ]
    rfl
  refine take_ (i := 3) (N := some 18) (v := .pointer (some ⟨r.gq, 0, none⟩)) #[true, true, true, true, false, false, false, false, false, false, false, false, false, false, false, false] rfl rfl (by kernel_rfl) (fun _ _ _ h => h) (Or.inl ⟨by rfl, ?_⟩) ?_ (a' := ?_) ?_ ?_
  · intro w' hS
    have hx : w'.cell? ⟨r.g, 0, none⟩ = some (.pointer (some ⟨r.gq, 0, none⟩)) := (hS.cell (p := ⟨r.g, 0, none⟩) (blk_lt H.out.1)).trans ((blk_cell H.out.1 0).trans rfl)
    go_simp
  · exact Hs.out
  rotate_left
  · simp only [Act.put, List.setIfInBounds_toArray, List.set_cons_zero, List.set_cons_succ]
    rfl
  refine pure_ (i := 4) (N := some 19) (v := ?_) (a' := ?_) #[true, true, true, true, true, false, false, false, false, false, false, false, false, false, false, false] rfl rfl (by kernel_rfl) (fun _ _ _ h => h) (Or.inl ⟨by rfl, ?_⟩) ?_ ?_
  rotate_left
  · intro w'
    go_simp
    with_reducible rfl
  rotate_left
  · simp only [Act.put, List.setIfInBounds_toArray, List.set_cons_zero, List.set_cons_succ]
    rfl
  refine pure_ (i := 5) (N := some 20) (v := ?_) (a' := ?_) #[true, true, true, true, true, true, false, false, false, false, false, false, false, false, false, false] rfl rfl (by kernel_rfl) (fun _ _ _ h => h) (Or.inl ⟨by rfl, ?_⟩) ?_ ?_
  rotate_left
  · intro w'
    go_simp
    with_reducible rfl
  rotate_left
  · simp only [Act.put, List.setIfInBounds_toArray, List.set_cons_zero, List.set_cons_succ]
    rfl
  refine pure_ (i := 6) (N := some 21) (v := ?_) (a' := ?_) #[true, true, true, true, true, true, true, false, false, false, false, false, false, false, false, false] rfl rfl (by kernel_rfl) (fun _ _ _ h => h) (Or.inl ⟨by rfl, ?_⟩) ?_ ?_
  rotate_left
  · intro w'
    go_simp
    with_reducible rfl
  rotate_left
  · simp only [Act.put, List.setIfInBounds_toArray, List.set_cons_zero, List.set_cons_succ]
    rfl
  refine take_ (i := 7) (N := some 22) (v := .int .i64 T) #[true, true, true, true, true, true, true, true, false, false, false, false, false, false, false, false] rfl rfl (by kernel_rfl) (fun _ _ _ h => h) (Or.inl ⟨by rfl, ?_⟩) ?_ (a' := ?_) ?_ ?_
  · intro w' hS
    have hx : w'.cell? ⟨r.g, 1, none⟩ = some (.int .i64 T) := (hS.cell (p := ⟨r.g, 1, none⟩) (blk_lt H.out.1)).trans ((blk_cell H.out.1 1).trans rfl)
    go_simp
  · exact Hs.out
  rotate_left
  · simp only [Act.put, List.setIfInBounds_toArray, List.set_cons_zero, List.set_cons_succ]
    rfl
  refine one_ (i := 8) (N := some 23) #[true, true, true, true, true, true, true, true, true, false, false, false, false, false, false, false] rfl rfl (by kernel_rfl) (by decide) (fun K hK => ?_)
  refine call_ 37 _ (by rfl) rfl (by go_simp; rfl) ?_
  refine (rnext_at (H.out.below Hs.out) hF.out hN.out).mono ?_
  rintro e wn ⟨rfl, hB⟩
  refine ⟨_, rfl, ?_⟩
  refine hK.out _ _ (below_step Hs.out hB) (fun hs => ?_)
  clear hK K hB Hs
  have Hs := Aside0.mk hs
  clear hs
  refine norm_ (a' := ?_) ?_ ?_
  rotate_left
  · show Act.put _ (some 23) _ = _
    simp only [Act.put, List.setIfInBounds_toArray, List.set_cons_zero, List.set_cons_succ]
    rfl
  refine pure_ (i := 9) (N := some 14) (v := ?_) (a' := ?_) #[true, true, true, true, true, true, true, true, true, true, false, false, false, false, false, false] rfl rfl (by kernel_rfl) (fun _ _ _ h => h) (Or.inl ⟨by rfl, ?_⟩) ?_ ?_
  rotate_left
  · intro w'
    go_simp
    with_reducible rfl
  rotate_left
  · simp only [Act.put, List.setIfInBounds_toArray, List.set_cons_zero, List.set_cons_succ]
    rfl
  refine pure_ (i := 10) (N := some 24) (v := ?_) (a' := ?_) #[true, true, true, true, true, true, true, true, true, true, true, false, false, false, false, false] rfl rfl (by kernel_rfl) (fun _ _ _ h => h) (Or.inl ⟨by rfl, ?_⟩) ?_ ?_
  rotate_left
  · intro w'
    go_simp
    with_reducible rfl
  rotate_left
  · simp only [Act.put, List.setIfInBounds_toArray, List.set_cons_zero, List.set_cons_succ]
    rfl
  refine pure_ (i := 11) (N := some 25) (v := ?_) (a' := ?_) #[true, true, true, true, true, true, true, true, true, true, true, true, false, false, false, false] rfl rfl (by kernel_rfl) (fun _ _ _ h => h) (Or.inl ⟨by rfl, ?_⟩) ?_ ?_
  rotate_left
  · intro w'
    go_simp
    with_reducible rfl
  rotate_left
  · simp only [Act.put, List.setIfInBounds_toArray, List.set_cons_zero, List.set_cons_succ]
    rfl
  refine pure_ (i := 12) (N := some 26) (v := ?_) (a' := ?_) #[true, true, true, true, true, true, true, true, true, true, true, true, true, false, false, false] rfl rfl (by kernel_rfl) (fun _ _ _ h => h) (Or.inl ⟨by rfl, ?_⟩) ?_ ?_
  rotate_left
  · intro w'
    go_simp
    with_reducible rfl
  rotate_left
  · simp only [Act.put, List.setIfInBounds_toArray, List.set_cons_zero, List.set_cons_succ]
    rfl
  refine pure_ (i := 13) (N := some 5) (v := ?_) (a' := ?_) #[true, true, true, true, true, true, true, true, true, true, true, true, true, true, false, false] rfl rfl (by kernel_rfl) (fun _ _ _ h => h) (Or.inl ⟨by rfl, ?_⟩) ?_ ?_
  rotate_left
  · intro w'
    go_simp
    with_reducible rfl
  rotate_left
  · simp only [Act.put, List.setIfInBounds_toArray, List.set_cons_zero, List.set_cons_succ]
    rfl
  refine pure_ (i := 14) (N := some 6) (v := ?_) (a' := ?_) #[true, true, true, true, true, true, true, true, true, true, true, true, true, true, true, false] rfl rfl (by kernel_rfl) (fun _ _ _ h => h) (Or.inl ⟨by rfl, ?_⟩) ?_ ?_
  rotate_left
  · intro w'
    go_simp
    with_reducible rfl
  rotate_left
  · simp only [Act.put, List.setIfInBounds_toArray, List.set_cons_zero, List.set_cons_succ]
    rfl
  refine pure_ (i := 15) (N := some 7) (v := ?_) (a' := ?_) #[true, true, true, true, true, true, true, true, true, true, true, true, true, true, true, true] rfl rfl (by kernel_rfl) (fun _ _ _ h => h) (Or.inl ⟨by rfl, ?_⟩) ?_ ?_
  rotate_left
  · intro w'
    go_simp
    with_reducible rfl
  rotate_left
  · simp only [Act.put, List.setIfInBounds_toArray, List.set_cons_zero, List.set_cons_succ]
    rfl
  refine done_ (by kernel_rfl) ?_
  have H3 := Aside0.mk (H.out.below Hs.out)
  have HB3 := Hs
  generalize wn = w3 at *
  clear Hs c2
  have c0 : w3.cell? ⟨r.g, 0, none⟩ = some (.pointer (some ⟨r.gq, 0, none⟩)) := (blk_cell H3.out.1 0).trans rfl
  go_wp2_with fail
  refine (rstart_at H3.out hF.out hS.out).mono ?_
  rintro e w4 ⟨rfl, hB⟩
  clear c0
  have H4 := Aside0.mk (H3.out.below hB)
  have c0 : w4.cell? ⟨r.g, 0, none⟩ = some (.pointer (some ⟨r.gq, 0, none⟩)) := (blk_cell H4.out.1 0).trans rfl
  obtain ⟨A, c, hb, hr, hc⟩ := H4.out.2.1.now
  have p2 : w4.cell? ⟨r.gq, 2, none⟩ = some (.slice A l.length c) := (blk_cell hb 2).trans rfl
  obtain ⟨ad, hA, hx0, hx1, hx2⟩ := at_T45 hr (n : Int) (by have := hn.out; omega) (by have := hn.out; omega)
  rw [Int.toNat_natCast] at hx0 hx1 hx2
  rw [hy.out] at hx2
  subst hA
  have i2 : decide ((l.length : Int) ≤ (n : Int)) = false := decide_eq_false (by have := hn.out; omega)
  have i3 : decide (l.length ≤ n) = false := decide_eq_false (by have := hn.out; omega)
  have i4 : decide ((n : Int) < 0) = false := decide_eq_false (by omega)
  have hnl := hn.out
  have HB4 := Aside0.mk (below_step HB3.out hB)
  have c1 : w4.cell? ⟨r.g, 1, none⟩ = some (.int .i64 T) := (blk_cell H4.out.1 1).trans rfl
  have c2 : w4.cell? ⟨r.g, 2, none⟩ = some (.int .i64 (-1)) := (blk_cell H4.out.1 2).trans rfl
  have c3 : w4.cell? ⟨r.g, 3, none⟩ = some (.int .i64 J) := (blk_cell H4.out.1 3).trans rfl
  have c4 : w4.cell? ⟨r.g, 4, none⟩ = some (.int .i64 U) := (blk_cell H4.out.1 4).trans rfl
  have f1 := blk_frozen H4.out.1 1
  have f2 := blk_frozen H4.out.1 2
  have f3 := blk_frozen H4.out.1 3
  have f4 := blk_frozen H4.out.1 4
  have q0 : r.gq ≠ r.g := ne_types hb H4.out.1 (by decide)
  clear hB hb hr hc hx0 hx1
  by_cases hy40 : y < 40
  · have b1 : wrap64 (s + y) = bg := (w64 (by omega) (by omega)).trans (by omega)
    have b2 : IntKind.i64.wrap (s + y) = bg := (i64_w _).trans b1
    go_wp2_with fail
    go_ret3
    exact ⟨rfl, H4.out.all (by repeat (first | exact Moves.refl _ _ | refine Moves.set (S := fun k => k = r.g) ?_ rfl _ _)) (by have := blk_set (blk_set (blk_set (blk_set H4.out.1 1 (.int .i64 bg)) 2 (.int .i64 n)) 3 (.int .i64 j)) 4 (.int .i64 0); simpa using this), by repeat (first | exact Moves.of_below HB4.out _ | refine Moves.set (S := fun k => k = r.g) ?_ rfl _ _)⟩
  · have b1 : wrap64 (s + 40) = bg := (w64 (by omega) (by omega)).trans (by omega)
    have b2 : IntKind.i64.wrap (s + 40) = bg := (i64_w _).trans b1
    go_wp2_with fail
    go_ret3
    exact ⟨rfl, H4.out.all (by repeat (first | exact Moves.refl _ _ | refine Moves.set (S := fun k => k = r.g) ?_ rfl _ _)) (by have := blk_set (blk_set (blk_set (blk_set H4.out.1 1 (.int .i64 bg)) 2 (.int .i64 n)) 3 (.int .i64 j)) 4 (.int .i64 0); simpa using this), by repeat (first | exact Moves.of_below HB4.out _ | refine Moves.set (S := fun k => k = r.g) ?_ rfl _ _)⟩
theorem rspend_out (n : Int) (h : RRaw w r M G l T (-1) J U La) : Calls Try.prog 19 #[.pointer (some ⟨r.g, 0, none⟩), .int .i64 n] w fun e w' => e = .returned (.int .i64 8) ∧ ∃ m, w' = w.drewN m := by
  go_enter Try.func19, Try.ntmps19
  go_wp2_with fail
  refine (rmay_out h).mono ?_
  rintro e w1 ⟨rfl, m, hw⟩
  have HW := Aside0.mk hw
  clear hw h
  go_wp2_with fail
  go_ret
  exact ⟨rfl, m, HW.out⟩
set_option maxHeartbeats 3200000 in
set_option maxRecDepth 100000 in
theorem rspend_no (n : Int) {B : Int} (h : RRaw w r M G l T W J U La) (hF : Fit M l) (hG : 0 ≤ G ∧ G ≤ 16777216) (hW : 0 ≤ W) (hB : budget G l W = B) (hu : B ≤ U) : Calls Try.prog 19 #[.pointer (some ⟨r.g, 0, none⟩), .int .i64 n] w fun e w' => e = .returned (.int .i64 8) ∧ Below w.heap.size w w' := by
  have H := Aside0.mk h
  have hm := rmay_in h hF hG hW hB
  clear h hB hF hG hW
  go_enter Try.func19, Try.ntmps19
  go_wp2_with fail
  refine hm.mono ?_
  rw [decide_eq_false (show ¬ U < B by omega)]
  rintro e w1 ⟨rfl, hB⟩
  have H1 := Aside0.mk (H.out.below hB)
  have HB := Aside0.mk hB
  clear hB hm
  go_wp2_with fail
  go_ret
  exact ⟨rfl, HB.out⟩
set_option maxHeartbeats 3200000 in
set_option maxRecDepth 100000 in
theorem rspend_neg (n : Int) {B : Int} (h : RRaw w r M G l T W J U La) (hF : Fit M l) (hG : 0 ≤ G ∧ G ≤ 16777216) (hW : 0 ≤ W) (hB : budget G l W = B) (hu : U < B) (hn : n < 0) : Calls Try.prog 19 #[.pointer (some ⟨r.g, 0, none⟩), .int .i64 n] w fun e w' => e = .returned (.int .i64 2) ∧ Below w.heap.size w w' := by
  have H := Aside0.mk h
  have hm := rmay_in h hF hG hW hB
  clear h hB hF hG hW
  go_enter Try.func19, Try.ntmps19
  go_wp2_with fail
  refine hm.mono ?_
  rw [decide_eq_true hu]
  rintro e w1 ⟨rfl, hB⟩
  have H1 := Aside0.mk (H.out.below hB)
  have HB := Aside0.mk hB
  clear hB hm
  have d0 : decide (n < 0) = true := decide_eq_true hn
  go_wp2_with fail
  go_ret
  exact ⟨rfl, HB.out⟩
set_option maxHeartbeats 3200000 in
set_option maxRecDepth 100000 in
theorem rspend_big (n : Int) {B : Int} (h : RRaw w r M G l T W J U La) (hF : Fit M l) (hG : 0 ≤ G ∧ G ≤ 16777216) (hW : 0 ≤ W) (hB : budget G l W = B) (hu : U < B) (hn : 0 ≤ n ∧ G < n) : Calls Try.prog 19 #[.pointer (some ⟨r.g, 0, none⟩), .int .i64 n] w fun e w' => e = .returned (.int .i64 142) ∧ Below w.heap.size w w' := by
  have H := Aside0.mk h
  have hm := rmay_in h hF hG hW hB
  clear h hB hF hG hW
  go_enter Try.func19, Try.ntmps19
  go_wp2_with fail
  refine hm.mono ?_
  rw [decide_eq_true hu]
  rintro e w1 ⟨rfl, hB⟩
  have H1 := Aside0.mk (H.out.below hB)
  have HB := Aside0.mk hB
  clear hB hm
  have d0 : decide (n < 0) = false := decide_eq_false (by omega)
  have d1 : decide (G < n) = true := decide_eq_true hn.2
  have c0 : w1.cell? ⟨r.g, 0, none⟩ = some (.pointer (some ⟨r.gq, 0, none⟩)) := (blk_cell H1.out.1 0).trans rfl
  obtain ⟨A, c, hb, hr, hc⟩ := H1.out.2.1.now
  have p1 : w1.cell? ⟨r.gq, 1, none⟩ = some (.int .i64 G) := (blk_cell hb 1).trans rfl
  have q0 : r.gq ≠ r.g := ne_types hb H1.out.1 (by decide)
  clear hb hr hc
  go_wp2_with fail
  go_ret
  exact ⟨rfl, HB.out⟩
set_option maxHeartbeats 3200000 in
set_option maxRecDepth 100000 in
theorem rspend_ok (n : Int) {B : Int} (h : RRaw w r M G l T W J U La) (hF : Fit M l) (hG : 0 ≤ G ∧ G ≤ 16777216) (hW : 0 ≤ W) (hB : budget G l W = B) (hu : U < B) (hn : 0 ≤ n ∧ n ≤ G) (t0 : -281474976710656 ≤ T ∧ T + n ≤ 281474976710656) (u0 : 0 ≤ U ∧ U + n ≤ 281474976710656) : Calls Try.prog 19 #[.pointer (some ⟨r.g, 0, none⟩), .int .i64 n] w fun e w' => e = .returned (.int .i64 0) ∧ RRaw w' r M G l (T + n) W J (U + n) La ∧ Moves w w' (fun k => k = r.g) := by
  have H := Aside0.mk h
  have hm := rmay_in h hF hG hW hB
  clear h hB hF hG hW
  go_enter Try.func19, Try.ntmps19
  go_wp2_with fail
  refine hm.mono ?_
  rw [decide_eq_true hu]
  rintro e w1 ⟨rfl, hB⟩
  have H1 := Aside0.mk (H.out.below hB)
  have HB := Aside0.mk hB
  clear hB hm
  have d0 : decide (n < 0) = false := decide_eq_false (by omega)
  have d1 : decide (G < n) = false := decide_eq_false (by omega)
  have a1 : wrap64 (T + n) = T + n := w64 (by omega) (by omega)
  have a2 : wrap64 (U + n) = U + n := w64 (by omega) (by omega)
  have c1 : w1.cell? ⟨r.g, 1, none⟩ = some (.int .i64 T) := (blk_cell H1.out.1 1).trans rfl
  have c4 : w1.cell? ⟨r.g, 4, none⟩ = some (.int .i64 U) := (blk_cell H1.out.1 4).trans rfl
  have f1 := blk_frozen H1.out.1 1
  have f4 := blk_frozen H1.out.1 4
  have c0 : w1.cell? ⟨r.g, 0, none⟩ = some (.pointer (some ⟨r.gq, 0, none⟩)) := (blk_cell H1.out.1 0).trans rfl
  obtain ⟨A, c, hb, hr, hc⟩ := H1.out.2.1.now
  have p1 : w1.cell? ⟨r.gq, 1, none⟩ = some (.int .i64 G) := (blk_cell hb 1).trans rfl
  have q0 : r.gq ≠ r.g := ne_types hb H1.out.1 (by decide)
  clear hb hr hc
  go_wp2_with fail
  go_ret
  exact ⟨rfl, H1.out.all (by repeat (first | exact Moves.refl _ _ | refine Moves.set (S := fun k => k = r.g) ?_ rfl _ _)) (by have := blk_set (blk_set H1.out.1 1 (.int .i64 (T + n))) 4 (.int .i64 (U + n)); simpa using this), by repeat (first | exact Moves.of_below HB.out _ | refine Moves.set (S := fun k => k = r.g) ?_ rfl _ _)⟩
theorem rleave_out (h : RRaw w r M G l T (-1) J U La) : Calls Try.prog 20 #[.pointer (some ⟨r.g, 0, none⟩)] w fun e w' => e = .returned (.tuple #[.int .i64 0, .int .i64 8]) ∧ w' = w := by
  have c2 : w.cell? ⟨r.g, 2, none⟩ = some (.int .i64 (-1)) := (blk_cell h.1 2).trans rfl
  clear h
  go_enter Try.func20, Try.ntmps20
  go_wp2_with fail
  go_ret2
  exact ⟨rfl, rfl⟩
set_option maxHeartbeats 3200000 in
set_option maxRecDepth 100000 in
theorem rleave_in (n : Nat) (s y E : Int) (h : RRaw w r M G l T (n : Int) J U La) (hF : Aside0 (Fit M l)) (hn : Aside0 (n < l.length)) (hS : Aside0 (startS M l J n = (s, 0))) (hy : Aside0 ((rd_T45 l (n : Int)).f2 = y)) (hE : s + y = E) (e0 : -9223372036854775808 ≤ E ∧ E ≤ 281474976710656) :
    Calls Try.prog 20 #[.pointer (some ⟨r.g, 0, none⟩)] w fun e w' => e = .returned (.tuple #[.int .i64 E, .int .i64 0]) ∧ RRaw w' r M G l E (-1) (-1) 0 E ∧ Moves w w' (fun k => k = r.g) := by
  have z1 : wrap64 (s + y) = E := (w64 (by omega) (by omega)).trans hE
  have c2 : w.cell? ⟨r.g, 2, none⟩ = some (.int .i64 (n : Int)) := (blk_cell h.1 2).trans rfl
  have d : decide ((n : Int) < 0) = false := decide_eq_false (by omega)
  have H := Aside0.mk h
  clear h
  go_enter Try.func20, Try.ntmps20
  go_wp2_with fail
  have Hs0 := Aside0.mk (below_drew1 (Below.refl w.heap.size w))
  refine start_ (n := 18) (S := fun w' => Below w.heap.size w w') (ds := []) #[false, false, false, false, false, false, false, false, false, false, false, false, false, false, false, false, false, false] (by kernel_rfl) rfl rfl Hs0.out (fun hs => ?_)
  have Hs := Aside0.mk hs
  clear hs Hs0
  refine pure_ (i := 0) (N := some 12) (v := ?_) (a' := ?_) #[true, false, false, false, false, false, false, false, false, false, false, false, false, false, false, false, false, false] rfl rfl (by kernel_rfl) (fun _ _ _ h => h) (Or.inl ⟨by rfl, ?_⟩) ?_ ?_
  rotate_left
  · intro w'
    go_simp
    with_reducible rfl
  rotate_left
  · simp only [Act.put, List.setIfInBounds_toArray, List.set_cons_zero, List.set_cons_succ]
    rfl
  refine pure_ (i := 1) (N := some 13) (v := ?_) (a' := ?_) #[true, true, false, false, false, false, false, false, false, false, false, false, false, false, false, false, false, false] rfl rfl (by kernel_rfl) (fun _ _ _ h => h) (Or.inl ⟨by rfl, ?_⟩) ?_ ?_
  rotate_left
  · intro w'
    go_simp
    with_reducible rfl
  rotate_left
  · simp only [Act.put, List.setIfInBounds_toArray, List.set_cons_zero, List.set_cons_succ]
    rfl
  refine pure_ (i := 2) (N := some 14) (v := ?_) (a' := ?_) #[true, true, true, false, false, false, false, false, false, false, false, false, false, false, false, false, false, false] rfl rfl (by kernel_rfl) (fun _ _ _ h => h) (Or.inl ⟨by rfl, ?_⟩) ?_ ?_
  rotate_left
  · intro w'
    go_simp
    with_reducible rfl
  rotate_left
  · simp only [Act.put, List.setIfInBounds_toArray, List.set_cons_zero, List.set_cons_succ]
    rfl
  refine take_ (i := 3) (N := some 15) (v := .pointer (some ⟨r.gq, 0, none⟩)) #[true, true, true, true, false, false, false, false, false, false, false, false, false, false, false, false, false, false] rfl rfl (by kernel_rfl) (fun _ _ _ h => h) (Or.inl ⟨by rfl, ?_⟩) ?_ (a' := ?_) ?_ ?_
  · intro w' hS
    have hx : w'.cell? ⟨r.g, 0, none⟩ = some (.pointer (some ⟨r.gq, 0, none⟩)) := (hS.cell (p := ⟨r.g, 0, none⟩) (blk_lt H.out.1)).trans ((blk_cell H.out.1 0).trans rfl)
    go_simp
  · exact Hs.out
  rotate_left
  · simp only [Act.put, List.setIfInBounds_toArray, List.set_cons_zero, List.set_cons_succ]
    rfl
  refine pure_ (i := 4) (N := some 16) (v := ?_) (a' := ?_) #[true, true, true, true, true, false, false, false, false, false, false, false, false, false, false, false, false, false] rfl rfl (by kernel_rfl) (fun _ _ _ h => h) (Or.inl ⟨by rfl, ?_⟩) ?_ ?_
  rotate_left
  · intro w'
    go_simp
    with_reducible rfl
  rotate_left
  · simp only [Act.put, List.setIfInBounds_toArray, List.set_cons_zero, List.set_cons_succ]
    rfl
  refine pure_ (i := 5) (N := some 17) (v := ?_) (a' := ?_) #[true, true, true, true, true, true, false, false, false, false, false, false, false, false, false, false, false, false] rfl rfl (by kernel_rfl) (fun _ _ _ h => h) (Or.inl ⟨by rfl, ?_⟩) ?_ ?_
  rotate_left
  · intro w'
    go_simp
    with_reducible rfl
  rotate_left
  · simp only [Act.put, List.setIfInBounds_toArray, List.set_cons_zero, List.set_cons_succ]
    rfl
  refine pure_ (i := 6) (N := some 18) (v := ?_) (a' := ?_) #[true, true, true, true, true, true, true, false, false, false, false, false, false, false, false, false, false, false] rfl rfl (by kernel_rfl) (fun _ _ _ h => h) (Or.inl ⟨by rfl, ?_⟩) ?_ ?_
  rotate_left
  · intro w'
    go_simp
    with_reducible rfl
  rotate_left
  · simp only [Act.put, List.setIfInBounds_toArray, List.set_cons_zero, List.set_cons_succ]
    rfl
  refine take_ (i := 7) (N := some 19) (v := .int .i64 J) #[true, true, true, true, true, true, true, true, false, false, false, false, false, false, false, false, false, false] rfl rfl (by kernel_rfl) (fun _ _ _ h => h) (Or.inl ⟨by rfl, ?_⟩) ?_ (a' := ?_) ?_ ?_
  · intro w' hS
    have hx : w'.cell? ⟨r.g, 3, none⟩ = some (.int .i64 J) := (hS.cell (p := ⟨r.g, 3, none⟩) (blk_lt H.out.1)).trans ((blk_cell H.out.1 3).trans rfl)
    go_simp
  · exact Hs.out
  rotate_left
  · simp only [Act.put, List.setIfInBounds_toArray, List.set_cons_zero, List.set_cons_succ]
    rfl
  refine pure_ (i := 8) (N := some 20) (v := ?_) (a' := ?_) #[true, true, true, true, true, true, true, true, true, false, false, false, false, false, false, false, false, false] rfl rfl (by kernel_rfl) (fun _ _ _ h => h) (Or.inl ⟨by rfl, ?_⟩) ?_ ?_
  rotate_left
  · intro w'
    go_simp
    with_reducible rfl
  rotate_left
  · simp only [Act.put, List.setIfInBounds_toArray, List.set_cons_zero, List.set_cons_succ]
    rfl
  refine pure_ (i := 9) (N := some 21) (v := ?_) (a' := ?_) #[true, true, true, true, true, true, true, true, true, true, false, false, false, false, false, false, false, false] rfl rfl (by kernel_rfl) (fun _ _ _ h => h) (Or.inl ⟨by rfl, ?_⟩) ?_ ?_
  rotate_left
  · intro w'
    go_simp
    with_reducible rfl
  rotate_left
  · simp only [Act.put, List.setIfInBounds_toArray, List.set_cons_zero, List.set_cons_succ]
    rfl
  refine pure_ (i := 10) (N := some 22) (v := ?_) (a' := ?_) #[true, true, true, true, true, true, true, true, true, true, true, false, false, false, false, false, false, false] rfl rfl (by kernel_rfl) (fun _ _ _ h => h) (Or.inl ⟨by rfl, ?_⟩) ?_ ?_
  rotate_left
  · intro w'
    go_simp
    with_reducible rfl
  rotate_left
  · simp only [Act.put, List.setIfInBounds_toArray, List.set_cons_zero, List.set_cons_succ]
    rfl
  refine take_ (i := 11) (N := some 23) (v := .int .i64 (n : Int)) #[true, true, true, true, true, true, true, true, true, true, true, true, false, false, false, false, false, false] rfl rfl (by kernel_rfl) (fun _ _ _ h => h) (Or.inl ⟨by rfl, ?_⟩) ?_ (a' := ?_) ?_ ?_
  · intro w' hS
    have hx : w'.cell? ⟨r.g, 2, none⟩ = some (.int .i64 (n : Int)) := (hS.cell (p := ⟨r.g, 2, none⟩) (blk_lt H.out.1)).trans ((blk_cell H.out.1 2).trans rfl)
    go_simp
  · exact Hs.out
  rotate_left
  · simp only [Act.put, List.setIfInBounds_toArray, List.set_cons_zero, List.set_cons_succ]
    rfl
  refine one_ (i := 12) (N := some 24) #[true, true, true, true, true, true, true, true, true, true, true, true, true, false, false, false, false, false] rfl rfl (by kernel_rfl) (by decide) (fun K hK => ?_)
  refine call_ 38 _ (by rfl) rfl (by go_simp; rfl) ?_
  refine (rstart_at (H.out.below Hs.out) hF.out hS.out).mono ?_
  rintro e wn ⟨rfl, hB⟩
  refine ⟨_, rfl, ?_⟩
  refine hK.out _ _ (below_step Hs.out hB) (fun hs => ?_)
  clear hK K hB Hs
  have Hs := Aside0.mk hs
  clear hs
  refine norm_ (a' := ?_) ?_ ?_
  rotate_left
  · show Act.put _ (some 24) _ = _
    simp only [Act.put, List.setIfInBounds_toArray, List.set_cons_zero, List.set_cons_succ]
    rfl
  refine pure_ (i := 13) (N := some 11) (v := ?_) (a' := ?_) #[true, true, true, true, true, true, true, true, true, true, true, true, true, true, false, false, false, false] rfl rfl (by kernel_rfl) (fun _ _ _ h => h) (Or.inl ⟨by rfl, ?_⟩) ?_ ?_
  rotate_left
  · intro w'
    go_simp
    with_reducible rfl
  rotate_left
  · simp only [Act.put, List.setIfInBounds_toArray, List.set_cons_zero, List.set_cons_succ]
    rfl
  refine pure_ (i := 14) (N := some 25) (v := ?_) (a' := ?_) #[true, true, true, true, true, true, true, true, true, true, true, true, true, true, true, false, false, false] rfl rfl (by kernel_rfl) (fun _ _ _ h => h) (Or.inl ⟨by rfl, ?_⟩) ?_ ?_
  rotate_left
  · intro w'
    go_simp
    with_reducible rfl
  rotate_left
  · simp only [Act.put, List.setIfInBounds_toArray, List.set_cons_zero, List.set_cons_succ]
    rfl
  refine pure_ (i := 15) (N := some 26) (v := ?_) (a' := ?_) #[true, true, true, true, true, true, true, true, true, true, true, true, true, true, true, true, false, false] rfl rfl (by kernel_rfl) (fun _ _ _ h => h) (Or.inl ⟨by rfl, ?_⟩) ?_ ?_
  rotate_left
  · intro w'
    go_simp
    with_reducible rfl
  rotate_left
  · simp only [Act.put, List.setIfInBounds_toArray, List.set_cons_zero, List.set_cons_succ]
    rfl
  refine pure_ (i := 16) (N := some 4) (v := ?_) (a' := ?_) #[true, true, true, true, true, true, true, true, true, true, true, true, true, true, true, true, true, false] rfl rfl (by kernel_rfl) (fun _ _ _ h => h) (Or.inl ⟨by rfl, ?_⟩) ?_ ?_
  rotate_left
  · intro w'
    go_simp
    with_reducible rfl
  rotate_left
  · simp only [Act.put, List.setIfInBounds_toArray, List.set_cons_zero, List.set_cons_succ]
    rfl
  refine pure_ (i := 17) (N := some 5) (v := ?_) (a' := ?_) #[true, true, true, true, true, true, true, true, true, true, true, true, true, true, true, true, true, true] rfl rfl (by kernel_rfl) (fun _ _ _ h => h) (Or.inl ⟨by rfl, ?_⟩) ?_ ?_
  rotate_left
  · intro w'
    go_simp
    with_reducible rfl
  rotate_left
  · simp only [Act.put, List.setIfInBounds_toArray, List.set_cons_zero, List.set_cons_succ]
    rfl
  refine done_ (by kernel_rfl) ?_
  have H4 := Aside0.mk (H.out.below Hs.out)
  have HB4 := Hs
  generalize wn = w4 at *
  clear Hs c2
  have c0 : w4.cell? ⟨r.g, 0, none⟩ = some (.pointer (some ⟨r.gq, 0, none⟩)) := (blk_cell H4.out.1 0).trans rfl
  obtain ⟨A, c, hb, hr, hc⟩ := H4.out.2.1.now
  have p2 : w4.cell? ⟨r.gq, 2, none⟩ = some (.slice A l.length c) := (blk_cell hb 2).trans rfl
  obtain ⟨ad, hA, hx0, hx1, hx2⟩ := at_T45 hr (n : Int) (by have := hn.out; omega) (by have := hn.out; omega)
  rw [Int.toNat_natCast] at hx0 hx1 hx2
  rw [hy.out] at hx2
  subst hA
  have i2 : decide ((l.length : Int) ≤ (n : Int)) = false := decide_eq_false (by have := hn.out; omega)
  have i3 : decide (l.length ≤ n) = false := decide_eq_false (by have := hn.out; omega)
  have hnl := hn.out
  have q0 : r.gq ≠ r.g := ne_types hb H4.out.1 (by decide)
  have c1 : w4.cell? ⟨r.g, 1, none⟩ = some (.int .i64 T) := (blk_cell H4.out.1 1).trans rfl
  have c2 : w4.cell? ⟨r.g, 2, none⟩ = some (.int .i64 (n : Int)) := (blk_cell H4.out.1 2).trans rfl
  have c3 : w4.cell? ⟨r.g, 3, none⟩ = some (.int .i64 J) := (blk_cell H4.out.1 3).trans rfl
  have c4 : w4.cell? ⟨r.g, 4, none⟩ = some (.int .i64 U) := (blk_cell H4.out.1 4).trans rfl
  have c5 : w4.cell? ⟨r.g, 5, none⟩ = some (.int .i64 La) := (blk_cell H4.out.1 5).trans rfl
  have f1 := blk_frozen H4.out.1 1
  have f2 := blk_frozen H4.out.1 2
  have f3 := blk_frozen H4.out.1 3
  have f4 := blk_frozen H4.out.1 4
  have f5 := blk_frozen H4.out.1 5
  clear hb hr hc hx0 hx1
  go_wp2_with fail
  go_region
  have hm5 : Moves w4 (w4.setCell ⟨r.g, 1, none⟩ (.int .i64 E)).drew (fun k => k = r.g) := Moves.drew (Moves.set (S := fun k => k = r.g) (Moves.refl _ _) rfl _ _)
  have H5 : Aside0 (RRaw (w4.setCell ⟨r.g, 1, none⟩ (.int .i64 E)).drew r M G l E n J U La) := ⟨H4.out.all hm5 (by have := blk_set H4.out.1 1 (.int .i64 E); show (w4.setCell ⟨r.g, 1, none⟩ (.int .i64 E)).heap[r.g]? = _; simpa using this)⟩
  have M5 : Aside0 (Moves w (w4.setCell ⟨r.g, 1, none⟩ (.int .i64 E)).drew (fun k => k = r.g)) := ⟨(Moves.of_below HB4.out _).then_ hm5 (fun k hk => .inl hk)⟩
  clear c0 c1 c2 c3 c4 c5 f1 f2 f3 f4 f5 p2 hx2 hm5 H4 HB4
  generalize (w4.setCell ⟨r.g, 1, none⟩ (.int .i64 E)).drew = w5 at *
  have c1 : w5.cell? ⟨r.g, 1, none⟩ = some (.int .i64 E) := (blk_cell H5.out.1 1).trans rfl
  have c2 : w5.cell? ⟨r.g, 2, none⟩ = some (.int .i64 (n : Int)) := (blk_cell H5.out.1 2).trans rfl
  have c3 : w5.cell? ⟨r.g, 3, none⟩ = some (.int .i64 J) := (blk_cell H5.out.1 3).trans rfl
  have c4 : w5.cell? ⟨r.g, 4, none⟩ = some (.int .i64 U) := (blk_cell H5.out.1 4).trans rfl
  have c5 : w5.cell? ⟨r.g, 5, none⟩ = some (.int .i64 La) := (blk_cell H5.out.1 5).trans rfl
  have f2 := blk_frozen H5.out.1 2
  have f3 := blk_frozen H5.out.1 3
  have f4 := blk_frozen H5.out.1 4
  have f5 := blk_frozen H5.out.1 5
  go_wp2_with fail
  go_ret2
  exact ⟨rfl, H5.out.all (by repeat (first | exact Moves.refl _ _ | refine Moves.set (S := fun k => k = r.g) ?_ rfl _ _ | apply Moves.drew | apply Moves.drewN)) (by have := blk_set (blk_set (blk_set (blk_set H5.out.1 5 (.int .i64 E)) 2 (.int .i64 (-1))) 3 (.int .i64 (-1))) 4 (.int .i64 0); simpa using this), by repeat (first | exact M5.out | refine Moves.set (S := fun k => k = r.g) ?_ rfl _ _ | apply Moves.drew | apply Moves.drewN)⟩
/-- What a call of the document's New comes to. -/
def NewR (w : World) (M G : Int) (l : List S45) (e : Ending) (w' : World) : Prop :=
  Below w.heap.size w w' ∧ ((newE M G l ≠ 0 ∧ e = .returned (.tuple #[.pointer none, .int .i64 (newE M G l)])) ∨ (newE M G l = 0 ∧ ∃ r : RP, e = .returned (.tuple #[.pointer (some ⟨r.g, 0, none⟩), .int .i64 0]) ∧ w.heap.size ≤ r.lo ∧ r.lo ≤ r.hi ∧ RRaw w' r M G l 0 (-1) (-1) 0 0))
set_option maxHeartbeats 3200000 in
set_option maxRecDepth 100000 in
theorem rnew_calls (x0 M G x3 x4 x5 : Int) (A6 A7 A8 : Option Addr) (n6 k6 k7 n8 k8 : Nat) (l : List S45) (w : World) (hr : Kd.C k45 w A7 l.length l)
    (hw : ∀ x ∈ l, (-9223372036854775808 ≤ x.f1 ∧ x.f1 < 9223372036854775808) ∧ (-9223372036854775808 ≤ x.f2 ∧ x.f2 < 9223372036854775808)) :
    Calls Try.prog 17 #[.agg #[.int .i64 x0, .int .i64 M, .int .i64 G, .int .i64 x3, .int .i64 x4, .int .i64 x5, .slice A6 n6 k6, .slice A7 l.length k7, .slice A8 n8 k8]] w (NewR w M G l) := by
  have key : Aside0 ((w.alloc (.cells #[.int .i64 x0, .int .i64 M, .int .i64 G, .int .i64 x3, .int .i64 x4, .int .i64 x5, .slice A6 n6 k6, .slice A7 l.length k7, .slice A8 n8 k8] 26)).heap[w.heap.size]? = some (.cells #[.int .i64 x0, .int .i64 M, .int .i64 G, .int .i64 x3, .int .i64 x4, .int .i64 x5, .slice A6 n6 k6, .slice A7 l.length k7, .slice A8 n8 k8] 26 (0, 0))) := ⟨heap_alloc_new w _⟩
  have HB0 : Aside0 (Below w.heap.size w (w.alloc (.cells #[.int .i64 x0, .int .i64 M, .int .i64 G, .int .i64 x3, .int .i64 x4, .int .i64 x5, .slice A6 n6 k6, .slice A7 l.length k7, .slice A8 n8 k8] 26))) := ⟨below_alloc (Below.refl _ _) _⟩
  have HC := Aside0.mk (Kd.C_alloc hr (.cells #[.int .i64 x0, .int .i64 M, .int .i64 G, .int .i64 x3, .int .i64 x4, .int .i64 x5, .slice A6 n6 k6, .slice A7 l.length k7, .slice A8 n8 k8] 26))
  have HW := Aside0.mk hw
  clear hr hw
  go_enter Try.func17, Try.ntmps17
  go_wp2_with fail
  refine (SPlanRNewF.new_calls x0 M G x3 x4 x5 A6 A7 A8 n6 k6 k7 n8 k8 l _ HC.out HW.out).mono ?_
  generalize hE : newE M G l = E
  rintro e w1 ⟨hB, h⟩
  rcases h with ⟨hne, rfl⟩ | ⟨h0, gq, rfl, hg1, hg2, hP⟩
  · have HB := Aside0.mk (below_step HB0.out hB)
    have HE := Aside0.mk hE
    have d : (E == 0) = false := beq_eq_false_iff_ne.2 hne
    have d2 : (E != 0) = true := bne_iff_ne.2 hne
    clear hE hB HB0
    go_wp2_with fail
    go_ret2
    exact ⟨HB.out, .inl ⟨by rw [HE.out]; exact hne, by rw [HE.out]; rfl⟩⟩
  · subst h0
    have HE := Aside0.mk hE
    have HB := Aside0.mk (below_step HB0.out hB)
    have HP := Aside0.mk hP
    have HL := Aside0.mk (Nat.succ_le_of_lt (blk_lt key.out))
    have HS := Aside0.mk hB.size
    clear hE hB hP hg1 hg2 HB0 HC key
    go_wp2_with fail
    go_ret2
    exact ⟨below_alloc HB.out _, .inr ⟨HE.out, ⟨w1.heap.size, gq, _, w1.heap.size⟩, rfl, Nat.le_trans (Nat.le_succ _) HL.out, HS.out, by simpa using heap_alloc_new _ _, PlanI.moves ⟨Nat.le_refl _, HP.out⟩ (Moves.of_below (below_alloc (Below.refl _ _) _) (fun _ => False)) (fun _ h => h.elim), Nat.le_refl _⟩⟩
end Go.Proofs.Ytagnlbpndldfeaa.SPlaysR
