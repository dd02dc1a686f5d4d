/- Entering a window. -/
import Derived.Test.YtagnlbpndldfeaaSLeave
namespace Go.Proofs.Ytagnlbpndldfeaa.SEnter
open Go.RowKit Go.Proofs.Ytagnlbpndldfeaa.PSchedPlays Go.Proofs.YtagnlbpndldfeaaW.PrintWords Go.Proofs.YtagnlbpndldfeaaW.PrintLast Go.Proofs.YtagnlbpndldfeaaW.PrintMore Go.Proofs.Ytagnlbpndldfeaa.Aid Go.Proofs.Ytagnlbpndldfeaa.PlanBase Go.Proofs.Ytagnlbpndldfeaa.SPlanAt Go.Proofs.Ytagnlbpndldfeaa.SPlanStart Go.Proofs.Ytagnlbpndldfeaa.SPlanCalls Go.Proofs.Ytagnlbpndldfeaa.SPlanBudget Go.Proofs.Ytagnlbpndldfeaa.SBase Go.Proofs.Ytagnlbpndldfeaa.SState Go.Proofs.Ytagnlbpndldfeaa.SLeave
set_option linter.unusedVariables false
set_option linter.unusedSimpArgs false
attribute [local go_sem] min2_int min_two
variable {w w' : World} {p : Pl} {M G : Int} {l : List S45} {t : Int} {b : Bool} {a : Int} {o ins : Bool} {win maj last : Int}
theorem next_at {j i e : Int} (h : Raw w p M G l t b a o ins win maj last) (hF : Fit M l) (hN : nextR M l t = (j, i, e)) : Calls Try.prog 26 #[.pointer (some ⟨p.gq, 0, none⟩), .int .i64 t] w fun e' w' => e' = .returned (.tuple #[.int .i64 j, .int .i64 i, .int .i64 e]) ∧ Below w.heap.size w w' := by
  have := SPlanCalls.next_calls p.gq M G l w t h.2.2.2.1.now hF
  rw [hN] at this
  exact this
theorem start_any {s e : Int} (h : Raw w p M G l t b a o ins win maj last) (hF : Fit M l) {j i : Int} (hS : startS M l j i = (s, e)) : Calls Try.prog 27 #[.pointer (some ⟨p.gq, 0, none⟩), .int .i64 j, .int .i64 i] w fun e' w' => e' = .returned (.tuple #[.int .i64 s, .int .i64 e]) ∧ Below w.heap.size w w' := by
  have := SPlanCalls.start_calls p.gq M G l w j i h.2.2.2.1.now hF
  rw [hS] at this
  exact this
theorem budget_at {i B : Int} (h : Raw w p M G l t b a o ins win maj last) (hF : Fit M l) (hG : 0 ≤ G ∧ G ≤ 16777216) (hB : budget G l i = B) : Calls Try.prog 31 #[.pointer (some ⟨p.gq, 0, none⟩), .int .i64 i] w fun e' w' => e' = .returned (.int .i64 B) ∧ Below w.heap.size w w' := by
  have := SPlanBudget.budget_calls p.gq M G i l w h.2.2.2.1.now hF hG.1 hG.2
  rw [hB] at this
  exact this
theorem _root_.Go.Proofs.Ytagnlbpndldfeaa.SState.Raw.set4 (h : Raw w p M G l t b a o ins win maj last) (ins' : Bool) (win' maj' q : Int) : Raw ((((w.setCell ⟨p.gs, 4, none⟩ (.bool ins')).setCell ⟨p.gs, 5, none⟩ (.int .i64 win')).setCell ⟨p.gs, 6, none⟩ (.int .i64 maj')).setCell ⟨p.gs, 7, none⟩ (.int .i64 q)) p M G l t b a o ins' win' maj' q := by
  have hm : Moves w ((((w.setCell ⟨p.gs, 4, none⟩ (.bool ins')).setCell ⟨p.gs, 5, none⟩ (.int .i64 win')).setCell ⟨p.gs, 6, none⟩ (.int .i64 maj')).setCell ⟨p.gs, 7, none⟩ (.int .i64 q)) (fun k => k = p.gs) := by
    repeat (first | exact Moves.refl _ _ | refine Moves.set (S := fun k => k = p.gs) ?_ rfl _ _)
  refine ⟨?_, hm.blk h.2.1 (Ne.symm h.sc), hm.blk h.2.2.1 (Ne.symm h.sp), h.2.2.2.1.moves hm (fun k hk => .inr (by rw [hk]; exact h.2.2.2.2.1)), h.2.2.2.2⟩
  have := blk_set (blk_set (blk_set (blk_set h.1 4 (.bool ins')) 5 (.int .i64 win')) 6 (.int .i64 maj')) 7 (.int .i64 q)
  simpa [Own] using this
theorem enter_in (h : Raw w p M G l t b a o true win maj last) : Calls Try.prog 9 #[.pointer (some ⟨p.gs, 0, none⟩)] w fun e w' => e = .returned (.tuple #[.int .i64 0, .int .i64 0, .int .i64 8]) ∧ w' = w := by
  have c4 : w.cell? ⟨p.gs, 4, none⟩ = some (.bool true) := (blk_cell h.1 4).trans rfl
  clear h
  go_enter Try.func9, Try.ntmps9
  go_wp2_with fail
  go_ret3
  exact ⟨rfl, rfl⟩
set_option maxHeartbeats 3200000 in
set_option maxRecDepth 100000 in
theorem enter_none (j i : Int) (h : Raw w p M G l t b a o false win maj last) (hF : Aside0 (Fit M l)) (hN : Aside0 (nextR M l t = (j, i, 2))) :
    Calls Try.prog 9 #[.pointer (some ⟨p.gs, 0, none⟩)] w fun e w' => e = .returned (.tuple #[.int .i64 0, .int .i64 0, .int .i64 2]) ∧ Below w.heap.size w w' := by
  have c4 : w.cell? ⟨p.gs, 4, none⟩ = some (.bool false) := (blk_cell h.1 4).trans rfl
  have H := Aside0.mk h
  clear h
  go_enter Try.func9, Try.ntmps9
  go_wp2_with fail
  have Hs0 := Aside0.mk (below_drew1 (Below.refl w.heap.size w))
  refine start_ (n := 17) (S := fun w' => Below w.heap.size w w') (ds := []) #[false, false, false, false, false, false, false, false, false, false, false, false, false, false, false, false, false] (by kernel_rfl) rfl rfl Hs0.out (fun hs => ?_)
  have Hs := Aside0.mk hs
  clear hs Hs0
  refine pure_ (i := 0) (N := some 18) (v := ?_) (a' := ?_) #[true, false, false, false, false, false, false, false, false, false, false, false, false, false, false, false, false] rfl rfl (by kernel_rfl) (fun _ _ _ h => h) (Or.inl ⟨by rfl, ?_⟩) ?_ ?_
  rotate_left
  · intro w'
    go_simp
    with_reducible rfl
  rotate_left
  · simp only [Act.put, List.setIfInBounds_toArray, List.set_cons_zero, List.set_cons_succ]
    rfl
  refine pure_ (i := 1) (N := some 19) (v := ?_) (a' := ?_) #[true, true, false, false, false, false, false, false, false, false, false, false, false, false, false, false, false] rfl rfl (by kernel_rfl) (fun _ _ _ h => h) (Or.inl ⟨by rfl, ?_⟩) ?_ ?_
  rotate_left
  · intro w'
    go_simp
    with_reducible rfl
  rotate_left
  · simp only [Act.put, List.setIfInBounds_toArray, List.set_cons_zero, List.set_cons_succ]
    rfl
  refine pure_ (i := 2) (N := some 20) (v := ?_) (a' := ?_) #[true, true, true, false, false, false, false, false, false, false, false, false, false, false, false, false, false] rfl rfl (by kernel_rfl) (fun _ _ _ h => h) (Or.inl ⟨by rfl, ?_⟩) ?_ ?_
  rotate_left
  · intro w'
    go_simp
    with_reducible rfl
  rotate_left
  · simp only [Act.put, List.setIfInBounds_toArray, List.set_cons_zero, List.set_cons_succ]
    rfl
  refine take_ (i := 3) (N := some 21) (v := .pointer (some ⟨p.gq, 0, none⟩)) #[true, true, true, true, false, false, false, false, false, false, false, false, false, false, false, false, false] rfl rfl (by kernel_rfl) (fun _ _ _ h => h) (Or.inl ⟨by rfl, ?_⟩) ?_ (a' := ?_) ?_ ?_
  · intro w' hS
    have hx : w'.cell? ⟨p.gs, 2, none⟩ = some (.pointer (some ⟨p.gq, 0, none⟩)) := (hS.cell (p := ⟨p.gs, 2, none⟩) (blk_lt H.out.1)).trans ((blk_cell H.out.1 2).trans rfl)
    go_simp
  · exact Hs.out
  rotate_left
  · simp only [Act.put, List.setIfInBounds_toArray, List.set_cons_zero, List.set_cons_succ]
    rfl
  refine pure_ (i := 4) (N := some 22) (v := ?_) (a' := ?_) #[true, true, true, true, true, false, false, false, false, false, false, false, false, false, false, false, false] rfl rfl (by kernel_rfl) (fun _ _ _ h => h) (Or.inl ⟨by rfl, ?_⟩) ?_ ?_
  rotate_left
  · intro w'
    go_simp
    with_reducible rfl
  rotate_left
  · simp only [Act.put, List.setIfInBounds_toArray, List.set_cons_zero, List.set_cons_succ]
    rfl
  refine pure_ (i := 5) (N := some 23) (v := ?_) (a' := ?_) #[true, true, true, true, true, true, false, false, false, false, false, false, false, false, false, false, false] rfl rfl (by kernel_rfl) (fun _ _ _ h => h) (Or.inl ⟨by rfl, ?_⟩) ?_ ?_
  rotate_left
  · intro w'
    go_simp
    with_reducible rfl
  rotate_left
  · simp only [Act.put, List.setIfInBounds_toArray, List.set_cons_zero, List.set_cons_succ]
    rfl
  refine pure_ (i := 6) (N := some 24) (v := ?_) (a' := ?_) #[true, true, true, true, true, true, true, false, false, false, false, false, false, false, false, false, false] rfl rfl (by kernel_rfl) (fun _ _ _ h => h) (Or.inl ⟨by rfl, ?_⟩) ?_ ?_
  rotate_left
  · intro w'
    go_simp
    with_reducible rfl
  rotate_left
  · simp only [Act.put, List.setIfInBounds_toArray, List.set_cons_zero, List.set_cons_succ]
    rfl
  refine take_ (i := 7) (N := some 25) (v := .pointer (some ⟨p.gc, 0, none⟩)) #[true, true, true, true, true, true, true, true, false, false, false, false, false, false, false, false, false] rfl rfl (by kernel_rfl) (fun _ _ _ h => h) (Or.inl ⟨by rfl, ?_⟩) ?_ (a' := ?_) ?_ ?_
  · intro w' hS
    have hx : w'.cell? ⟨p.gs, 0, none⟩ = some (.pointer (some ⟨p.gc, 0, none⟩)) := (hS.cell (p := ⟨p.gs, 0, none⟩) (blk_lt H.out.1)).trans ((blk_cell H.out.1 0).trans rfl)
    go_simp
  · exact Hs.out
  rotate_left
  · simp only [Act.put, List.setIfInBounds_toArray, List.set_cons_zero, List.set_cons_succ]
    rfl
  refine one_ (i := 8) (N := some 26) #[true, true, true, true, true, true, true, true, true, false, false, false, false, false, false, false, false] rfl rfl (by kernel_rfl) (by decide) (fun K hK => ?_)
  refine call_ 10 _ (by rfl) rfl (by go_simp; rfl) ?_
  refine (now_calls _ _ _ _ _ (H.out.below Hs.out).2.1).mono ?_
  rintro e wn ⟨rfl, rfl⟩
  refine ⟨_, rfl, ?_⟩
  refine hK.out _ _ Hs.out (fun hs => ?_)
  clear hK K Hs
  have Hs := Aside0.mk hs
  clear hs
  refine norm_ (a' := ?_) ?_ ?_
  rotate_left
  · show Act.put _ (some 26) _ = _
    simp only [Act.put, List.setIfInBounds_toArray, List.set_cons_zero, List.set_cons_succ]
    rfl
  refine one_ (i := 9) (N := some 27) #[true, true, true, true, true, true, true, true, true, true, false, false, false, false, false, false, false] rfl rfl (by kernel_rfl) (by decide) (fun K hK => ?_)
  refine call_ 26 _ (by rfl) rfl (by go_simp; rfl) ?_
  refine (next_at (H.out.below Hs.out) hF.out hN.out).mono ?_
  rintro e wn ⟨rfl, hB⟩
  refine ⟨_, rfl, ?_⟩
  refine hK.out _ _ (below_step Hs.out hB) (fun hs => ?_)
  clear hK K hB Hs
  have Hs := Aside0.mk hs
  clear hs
  refine norm_ (a' := ?_) ?_ ?_
  rotate_left
  · show Act.put _ (some 27) _ = _
    simp only [Act.put, List.setIfInBounds_toArray, List.set_cons_zero, List.set_cons_succ]
    rfl
  refine pure_ (i := 10) (N := some 17) (v := ?_) (a' := ?_) #[true, true, true, true, true, true, true, true, true, true, true, false, false, false, false, false, false] rfl rfl (by kernel_rfl) (fun _ _ _ h => h) (Or.inl ⟨by rfl, ?_⟩) ?_ ?_
  rotate_left
  · intro w'
    go_simp
    with_reducible rfl
  rotate_left
  · simp only [Act.put, List.setIfInBounds_toArray, List.set_cons_zero, List.set_cons_succ]
    rfl
  refine pure_ (i := 11) (N := some 28) (v := ?_) (a' := ?_) #[true, true, true, true, true, true, true, true, true, true, true, true, false, false, false, false, false] rfl rfl (by kernel_rfl) (fun _ _ _ h => h) (Or.inl ⟨by rfl, ?_⟩) ?_ ?_
  rotate_left
  · intro w'
    go_simp
    with_reducible rfl
  rotate_left
  · simp only [Act.put, List.setIfInBounds_toArray, List.set_cons_zero, List.set_cons_succ]
    rfl
  refine pure_ (i := 12) (N := some 29) (v := ?_) (a' := ?_) #[true, true, true, true, true, true, true, true, true, true, true, true, true, false, false, false, false] rfl rfl (by kernel_rfl) (fun _ _ _ h => h) (Or.inl ⟨by rfl, ?_⟩) ?_ ?_
  rotate_left
  · intro w'
    go_simp
    with_reducible rfl
  rotate_left
  · simp only [Act.put, List.setIfInBounds_toArray, List.set_cons_zero, List.set_cons_succ]
    rfl
  refine pure_ (i := 13) (N := some 30) (v := ?_) (a' := ?_) #[true, true, true, true, true, true, true, true, true, true, true, true, true, true, false, false, false] rfl rfl (by kernel_rfl) (fun _ _ _ h => h) (Or.inl ⟨by rfl, ?_⟩) ?_ ?_
  rotate_left
  · intro w'
    go_simp
    with_reducible rfl
  rotate_left
  · simp only [Act.put, List.setIfInBounds_toArray, List.set_cons_zero, List.set_cons_succ]
    rfl
  refine pure_ (i := 14) (N := some 5) (v := ?_) (a' := ?_) #[true, true, true, true, true, true, true, true, true, true, true, true, true, true, true, false, false] rfl rfl (by kernel_rfl) (fun _ _ _ h => h) (Or.inl ⟨by rfl, ?_⟩) ?_ ?_
  rotate_left
  · intro w'
    go_simp
    with_reducible rfl
  rotate_left
  · simp only [Act.put, List.setIfInBounds_toArray, List.set_cons_zero, List.set_cons_succ]
    rfl
  refine pure_ (i := 15) (N := some 6) (v := ?_) (a' := ?_) #[true, true, true, true, true, true, true, true, true, true, true, true, true, true, true, true, false] rfl rfl (by kernel_rfl) (fun _ _ _ h => h) (Or.inl ⟨by rfl, ?_⟩) ?_ ?_
  rotate_left
  · intro w'
    go_simp
    with_reducible rfl
  rotate_left
  · simp only [Act.put, List.setIfInBounds_toArray, List.set_cons_zero, List.set_cons_succ]
    rfl
  refine pure_ (i := 16) (N := some 7) (v := ?_) (a' := ?_) #[true, true, true, true, true, true, true, true, true, true, true, true, true, true, true, true, true] rfl rfl (by kernel_rfl) (fun _ _ _ h => h) (Or.inl ⟨by rfl, ?_⟩) ?_ ?_
  rotate_left
  · intro w'
    go_simp
    with_reducible rfl
  rotate_left
  · simp only [Act.put, List.setIfInBounds_toArray, List.set_cons_zero, List.set_cons_succ]
    rfl
  refine done_ (by kernel_rfl) ?_
  have H3 := Aside0.mk (H.out.below Hs.out)
  have HB3 := Hs
  generalize wn = w3 at *
  clear Hs c4
  go_wp2_with fail
  go_ret3
  exact ⟨rfl, HB3.out⟩
set_option maxHeartbeats 3200000 in
set_option maxRecDepth 100000 in
theorem enter_bad (n : Nat) (j s e y0 y1 y2 : Int) (h : Raw w p M G l t b a o false win maj last) (hF : Aside0 (Fit M l)) (hN : Aside0 (nextR M l t = (j, (n : Int), 0))) (hn : Aside0 (n < l.length)) (hS : Aside0 (startS M l j n = (s, e))) (hy0 : Aside0 ((rd_T45 l (n : Int)).f0 = y0)) (hy1 : Aside0 ((rd_T45 l (n : Int)).f1 = y1)) (hy2 : Aside0 ((rd_T45 l (n : Int)).f2 = y2)) (he : (e != 0) = true) :
    Calls Try.prog 9 #[.pointer (some ⟨p.gs, 0, none⟩)] w fun e w' => e = .returned (.tuple #[.int .i64 0, .int .i64 0, .int .i64 2]) ∧ Below w.heap.size w w' := by
  have c4 : w.cell? ⟨p.gs, 4, none⟩ = some (.bool false) := (blk_cell h.1 4).trans rfl
  have H := Aside0.mk h
  clear h
  go_enter Try.func9, Try.ntmps9
  go_wp2_with fail
  have Hs0 := Aside0.mk (below_drew1 (Below.refl w.heap.size w))
  refine start_ (n := 17) (S := fun w' => Below w.heap.size w w') (ds := []) #[false, false, false, false, false, false, false, false, false, false, false, false, false, false, false, false, false] (by kernel_rfl) rfl rfl Hs0.out (fun hs => ?_)
  have Hs := Aside0.mk hs
  clear hs Hs0
  refine pure_ (i := 0) (N := some 18) (v := ?_) (a' := ?_) #[true, false, false, false, false, false, false, false, false, false, false, false, false, false, false, false, false] rfl rfl (by kernel_rfl) (fun _ _ _ h => h) (Or.inl ⟨by rfl, ?_⟩) ?_ ?_
  rotate_left
  · intro w'
    go_simp
    with_reducible rfl
  rotate_left
  · simp only [Act.put, List.setIfInBounds_toArray, List.set_cons_zero, List.set_cons_succ]
    rfl
  refine pure_ (i := 1) (N := some 19) (v := ?_) (a' := ?_) #[true, true, false, false, false, false, false, false, false, false, false, false, false, false, false, false, false] rfl rfl (by kernel_rfl) (fun _ _ _ h => h) (Or.inl ⟨by rfl, ?_⟩) ?_ ?_
  rotate_left
  · intro w'
    go_simp
    with_reducible rfl
  rotate_left
  · simp only [Act.put, List.setIfInBounds_toArray, List.set_cons_zero, List.set_cons_succ]
    rfl
  refine pure_ (i := 2) (N := some 20) (v := ?_) (a' := ?_) #[true, true, true, false, false, false, false, false, false, false, false, false, false, false, false, false, false] rfl rfl (by kernel_rfl) (fun _ _ _ h => h) (Or.inl ⟨by rfl, ?_⟩) ?_ ?_
  rotate_left
  · intro w'
    go_simp
    with_reducible rfl
  rotate_left
  · simp only [Act.put, List.setIfInBounds_toArray, List.set_cons_zero, List.set_cons_succ]
    rfl
  refine take_ (i := 3) (N := some 21) (v := .pointer (some ⟨p.gq, 0, none⟩)) #[true, true, true, true, false, false, false, false, false, false, false, false, false, false, false, false, false] rfl rfl (by kernel_rfl) (fun _ _ _ h => h) (Or.inl ⟨by rfl, ?_⟩) ?_ (a' := ?_) ?_ ?_
  · intro w' hS
    have hx : w'.cell? ⟨p.gs, 2, none⟩ = some (.pointer (some ⟨p.gq, 0, none⟩)) := (hS.cell (p := ⟨p.gs, 2, none⟩) (blk_lt H.out.1)).trans ((blk_cell H.out.1 2).trans rfl)
    go_simp
  · exact Hs.out
  rotate_left
  · simp only [Act.put, List.setIfInBounds_toArray, List.set_cons_zero, List.set_cons_succ]
    rfl
  refine pure_ (i := 4) (N := some 22) (v := ?_) (a' := ?_) #[true, true, true, true, true, false, false, false, false, false, false, false, false, false, false, false, false] rfl rfl (by kernel_rfl) (fun _ _ _ h => h) (Or.inl ⟨by rfl, ?_⟩) ?_ ?_
  rotate_left
  · intro w'
    go_simp
    with_reducible rfl
  rotate_left
  · simp only [Act.put, List.setIfInBounds_toArray, List.set_cons_zero, List.set_cons_succ]
    rfl
  refine pure_ (i := 5) (N := some 23) (v := ?_) (a' := ?_) #[true, true, true, true, true, true, false, false, false, false, false, false, false, false, false, false, false] rfl rfl (by kernel_rfl) (fun _ _ _ h => h) (Or.inl ⟨by rfl, ?_⟩) ?_ ?_
  rotate_left
  · intro w'
    go_simp
    with_reducible rfl
  rotate_left
  · simp only [Act.put, List.setIfInBounds_toArray, List.set_cons_zero, List.set_cons_succ]
    rfl
  refine pure_ (i := 6) (N := some 24) (v := ?_) (a' := ?_) #[true, true, true, true, true, true, true, false, false, false, false, false, false, false, false, false, false] rfl rfl (by kernel_rfl) (fun _ _ _ h => h) (Or.inl ⟨by rfl, ?_⟩) ?_ ?_
  rotate_left
  · intro w'
    go_simp
    with_reducible rfl
  rotate_left
  · simp only [Act.put, List.setIfInBounds_toArray, List.set_cons_zero, List.set_cons_succ]
    rfl
  refine take_ (i := 7) (N := some 25) (v := .pointer (some ⟨p.gc, 0, none⟩)) #[true, true, true, true, true, true, true, true, false, false, false, false, false, false, false, false, false] rfl rfl (by kernel_rfl) (fun _ _ _ h => h) (Or.inl ⟨by rfl, ?_⟩) ?_ (a' := ?_) ?_ ?_
  · intro w' hS
    have hx : w'.cell? ⟨p.gs, 0, none⟩ = some (.pointer (some ⟨p.gc, 0, none⟩)) := (hS.cell (p := ⟨p.gs, 0, none⟩) (blk_lt H.out.1)).trans ((blk_cell H.out.1 0).trans rfl)
    go_simp
  · exact Hs.out
  rotate_left
  · simp only [Act.put, List.setIfInBounds_toArray, List.set_cons_zero, List.set_cons_succ]
    rfl
  refine one_ (i := 8) (N := some 26) #[true, true, true, true, true, true, true, true, true, false, false, false, false, false, false, false, false] rfl rfl (by kernel_rfl) (by decide) (fun K hK => ?_)
  refine call_ 10 _ (by rfl) rfl (by go_simp; rfl) ?_
  refine (now_calls _ _ _ _ _ (H.out.below Hs.out).2.1).mono ?_
  rintro e wn ⟨rfl, rfl⟩
  refine ⟨_, rfl, ?_⟩
  refine hK.out _ _ Hs.out (fun hs => ?_)
  clear hK K Hs
  have Hs := Aside0.mk hs
  clear hs
  refine norm_ (a' := ?_) ?_ ?_
  rotate_left
  · show Act.put _ (some 26) _ = _
    simp only [Act.put, List.setIfInBounds_toArray, List.set_cons_zero, List.set_cons_succ]
    rfl
  refine one_ (i := 9) (N := some 27) #[true, true, true, true, true, true, true, true, true, true, false, false, false, false, false, false, false] rfl rfl (by kernel_rfl) (by decide) (fun K hK => ?_)
  refine call_ 26 _ (by rfl) rfl (by go_simp; rfl) ?_
  refine (next_at (H.out.below Hs.out) hF.out hN.out).mono ?_
  rintro e wn ⟨rfl, hB⟩
  refine ⟨_, rfl, ?_⟩
  refine hK.out _ _ (below_step Hs.out hB) (fun hs => ?_)
  clear hK K hB Hs
  have Hs := Aside0.mk hs
  clear hs
  refine norm_ (a' := ?_) ?_ ?_
  rotate_left
  · show Act.put _ (some 27) _ = _
    simp only [Act.put, List.setIfInBounds_toArray, List.set_cons_zero, List.set_cons_succ]
    rfl
  refine pure_ (i := 10) (N := some 17) (v := ?_) (a' := ?_) #[true, true, true, true, true, true, true, true, true, true, true, false, false, false, false, false, false] rfl rfl (by kernel_rfl) (fun _ _ _ h => h) (Or.inl ⟨by rfl, ?_⟩) ?_ ?_
  rotate_left
  · intro w'
    go_simp
    with_reducible rfl
  rotate_left
  · simp only [Act.put, List.setIfInBounds_toArray, List.set_cons_zero, List.set_cons_succ]
    rfl
  refine pure_ (i := 11) (N := some 28) (v := ?_) (a' := ?_) #[true, true, true, true, true, true, true, true, true, true, true, true, false, false, false, false, false] rfl rfl (by kernel_rfl) (fun _ _ _ h => h) (Or.inl ⟨by rfl, ?_⟩) ?_ ?_
  rotate_left
  · intro w'
    go_simp
    with_reducible rfl
  rotate_left
  · simp only [Act.put, List.setIfInBounds_toArray, List.set_cons_zero, List.set_cons_succ]
    rfl
  refine pure_ (i := 12) (N := some 29) (v := ?_) (a' := ?_) #[true, true, true, true, true, true, true, true, true, true, true, true, true, false, false, false, false] rfl rfl (by kernel_rfl) (fun _ _ _ h => h) (Or.inl ⟨by rfl, ?_⟩) ?_ ?_
  rotate_left
  · intro w'
    go_simp
    with_reducible rfl
  rotate_left
  · simp only [Act.put, List.setIfInBounds_toArray, List.set_cons_zero, List.set_cons_succ]
    rfl
  refine pure_ (i := 13) (N := some 30) (v := ?_) (a' := ?_) #[true, true, true, true, true, true, true, true, true, true, true, true, true, true, false, false, false] rfl rfl (by kernel_rfl) (fun _ _ _ h => h) (Or.inl ⟨by rfl, ?_⟩) ?_ ?_
  rotate_left
  · intro w'
    go_simp
    with_reducible rfl
  rotate_left
  · simp only [Act.put, List.setIfInBounds_toArray, List.set_cons_zero, List.set_cons_succ]
    rfl
  refine pure_ (i := 14) (N := some 5) (v := ?_) (a' := ?_) #[true, true, true, true, true, true, true, true, true, true, true, true, true, true, true, false, false] rfl rfl (by kernel_rfl) (fun _ _ _ h => h) (Or.inl ⟨by rfl, ?_⟩) ?_ ?_
  rotate_left
  · intro w'
    go_simp
    with_reducible rfl
  rotate_left
  · simp only [Act.put, List.setIfInBounds_toArray, List.set_cons_zero, List.set_cons_succ]
    rfl
  refine pure_ (i := 15) (N := some 6) (v := ?_) (a' := ?_) #[true, true, true, true, true, true, true, true, true, true, true, true, true, true, true, true, false] rfl rfl (by kernel_rfl) (fun _ _ _ h => h) (Or.inl ⟨by rfl, ?_⟩) ?_ ?_
  rotate_left
  · intro w'
    go_simp
    with_reducible rfl
  rotate_left
  · simp only [Act.put, List.setIfInBounds_toArray, List.set_cons_zero, List.set_cons_succ]
    rfl
  refine pure_ (i := 16) (N := some 7) (v := ?_) (a' := ?_) #[true, true, true, true, true, true, true, true, true, true, true, true, true, true, true, true, true] rfl rfl (by kernel_rfl) (fun _ _ _ h => h) (Or.inl ⟨by rfl, ?_⟩) ?_ ?_
  rotate_left
  · intro w'
    go_simp
    with_reducible rfl
  rotate_left
  · simp only [Act.put, List.setIfInBounds_toArray, List.set_cons_zero, List.set_cons_succ]
    rfl
  refine done_ (by kernel_rfl) ?_
  have H3 := Aside0.mk (H.out.below Hs.out)
  have HB3 := Hs
  generalize wn = w3 at *
  clear Hs c4
  have c2 : w3.cell? ⟨p.gs, 2, none⟩ = some (.pointer (some ⟨p.gq, 0, none⟩)) := (blk_cell H3.out.1 2).trans rfl
  go_wp2_with fail
  refine (start_any H3.out hF.out hS.out).mono ?_
  rintro e w4 ⟨rfl, hB⟩
  have H4 := Aside0.mk (H3.out.below hB)
  have HB4 := Aside0.mk (below_step HB3.out hB)
  clear hB c2 H3 HB3
  have c2 : w4.cell? ⟨p.gs, 2, none⟩ = some (.pointer (some ⟨p.gq, 0, none⟩)) := (blk_cell H4.out.1 2).trans rfl
  go_wp2_with fail
  refine (window_at n H4.out hn.out).mono ?_
  rw [hy0.out, hy1.out, hy2.out]
  rintro e w5 ⟨rfl, hB⟩
  have H5 := Aside0.mk (H4.out.below hB)
  have HB5 := Aside0.mk (below_step HB4.out hB)
  clear hB c2 H4 HB4
  go_wp2_with fail
  go_ret3
  exact ⟨rfl, by repeat (first | exact HB5.out | apply below_alloc | apply pw_below_drewN | apply below_drew)⟩
set_option maxHeartbeats 3200000 in
set_option maxRecDepth 100000 in
theorem enter_late (n : Nat) (j s y0 y1 y2 : Int) (h : Raw w p M G l t b a o false win maj last) (hF : Aside0 (Fit M l)) (hN : Aside0 (nextR M l t = (j, (n : Int), 0))) (hn : Aside0 (n < l.length)) (hS : Aside0 (startS M l j n = (s, 0))) (hy0 : Aside0 ((rd_T45 l (n : Int)).f0 = y0)) (hy1 : Aside0 ((rd_T45 l (n : Int)).f1 = y1)) (hy2 : Aside0 ((rd_T45 l (n : Int)).f2 = y2)) (e1 : wrap64 (281474976710656 - s) = 281474976710656 - s) (e2 : decide (281474976710656 - s < y2) = true) :
    Calls Try.prog 9 #[.pointer (some ⟨p.gs, 0, none⟩)] w fun e w' => e = .returned (.tuple #[.int .i64 0, .int .i64 0, .int .i64 2]) ∧ Below w.heap.size w w' := by
  have c4 : w.cell? ⟨p.gs, 4, none⟩ = some (.bool false) := (blk_cell h.1 4).trans rfl
  have H := Aside0.mk h
  clear h
  go_enter Try.func9, Try.ntmps9
  go_wp2_with fail
  have Hs0 := Aside0.mk (below_drew1 (Below.refl w.heap.size w))
  refine start_ (n := 17) (S := fun w' => Below w.heap.size w w') (ds := []) #[false, false, false, false, false, false, false, false, false, false, false, false, false, false, false, false, false] (by kernel_rfl) rfl rfl Hs0.out (fun hs => ?_)
  have Hs := Aside0.mk hs
  clear hs Hs0
  refine pure_ (i := 0) (N := some 18) (v := ?_) (a' := ?_) #[true, false, false, false, false, false, false, false, false, false, false, false, false, false, false, false, false] rfl rfl (by kernel_rfl) (fun _ _ _ h => h) (Or.inl ⟨by rfl, ?_⟩) ?_ ?_
  rotate_left
  · intro w'
    go_simp
    with_reducible rfl
  rotate_left
  · simp only [Act.put, List.setIfInBounds_toArray, List.set_cons_zero, List.set_cons_succ]
    rfl
  refine pure_ (i := 1) (N := some 19) (v := ?_) (a' := ?_) #[true, true, false, false, false, false, false, false, false, false, false, false, false, false, false, false, false] rfl rfl (by kernel_rfl) (fun _ _ _ h => h) (Or.inl ⟨by rfl, ?_⟩) ?_ ?_
  rotate_left
  · intro w'
    go_simp
    with_reducible rfl
  rotate_left
  · simp only [Act.put, List.setIfInBounds_toArray, List.set_cons_zero, List.set_cons_succ]
    rfl
  refine pure_ (i := 2) (N := some 20) (v := ?_) (a' := ?_) #[true, true, true, false, false, false, false, false, false, false, false, false, false, false, false, false, false] rfl rfl (by kernel_rfl) (fun _ _ _ h => h) (Or.inl ⟨by rfl, ?_⟩) ?_ ?_
  rotate_left
  · intro w'
    go_simp
    with_reducible rfl
  rotate_left
  · simp only [Act.put, List.setIfInBounds_toArray, List.set_cons_zero, List.set_cons_succ]
    rfl
  refine take_ (i := 3) (N := some 21) (v := .pointer (some ⟨p.gq, 0, none⟩)) #[true, true, true, true, false, false, false, false, false, false, false, false, false, false, false, false, false] rfl rfl (by kernel_rfl) (fun _ _ _ h => h) (Or.inl ⟨by rfl, ?_⟩) ?_ (a' := ?_) ?_ ?_
  · intro w' hS
    have hx : w'.cell? ⟨p.gs, 2, none⟩ = some (.pointer (some ⟨p.gq, 0, none⟩)) := (hS.cell (p := ⟨p.gs, 2, none⟩) (blk_lt H.out.1)).trans ((blk_cell H.out.1 2).trans rfl)
    go_simp
  · exact Hs.out
  rotate_left
  · simp only [Act.put, List.setIfInBounds_toArray, List.set_cons_zero, List.set_cons_succ]
    rfl
  refine pure_ (i := 4) (N := some 22) (v := ?_) (a' := ?_) #[true, true, true, true, true, false, false, false, false, false, false, false, false, false, false, false, false] rfl rfl (by kernel_rfl) (fun _ _ _ h => h) (Or.inl ⟨by rfl, ?_⟩) ?_ ?_
  rotate_left
  · intro w'
    go_simp
    with_reducible rfl
  rotate_left
  · simp only [Act.put, List.setIfInBounds_toArray, List.set_cons_zero, List.set_cons_succ]
    rfl
  refine pure_ (i := 5) (N := some 23) (v := ?_) (a' := ?_) #[true, true, true, true, true, true, false, false, false, false, false, false, false, false, false, false, false] rfl rfl (by kernel_rfl) (fun _ _ _ h => h) (Or.inl ⟨by rfl, ?_⟩) ?_ ?_
  rotate_left
  · intro w'
    go_simp
    with_reducible rfl
  rotate_left
  · simp only [Act.put, List.setIfInBounds_toArray, List.set_cons_zero, List.set_cons_succ]
    rfl
  refine pure_ (i := 6) (N := some 24) (v := ?_) (a' := ?_) #[true, true, true, true, true, true, true, false, false, false, false, false, false, false, false, false, false] rfl rfl (by kernel_rfl) (fun _ _ _ h => h) (Or.inl ⟨by rfl, ?_⟩) ?_ ?_
  rotate_left
  · intro w'
    go_simp
    with_reducible rfl
  rotate_left
  · simp only [Act.put, List.setIfInBounds_toArray, List.set_cons_zero, List.set_cons_succ]
    rfl
  refine take_ (i := 7) (N := some 25) (v := .pointer (some ⟨p.gc, 0, none⟩)) #[true, true, true, true, true, true, true, true, false, false, false, false, false, false, false, false, false] rfl rfl (by kernel_rfl) (fun _ _ _ h => h) (Or.inl ⟨by rfl, ?_⟩) ?_ (a' := ?_) ?_ ?_
  · intro w' hS
    have hx : w'.cell? ⟨p.gs, 0, none⟩ = some (.pointer (some ⟨p.gc, 0, none⟩)) := (hS.cell (p := ⟨p.gs, 0, none⟩) (blk_lt H.out.1)).trans ((blk_cell H.out.1 0).trans rfl)
    go_simp
  · exact Hs.out
  rotate_left
  · simp only [Act.put, List.setIfInBounds_toArray, List.set_cons_zero, List.set_cons_succ]
    rfl
  refine one_ (i := 8) (N := some 26) #[true, true, true, true, true, true, true, true, true, false, false, false, false, false, false, false, false] rfl rfl (by kernel_rfl) (by decide) (fun K hK => ?_)
  refine call_ 10 _ (by rfl) rfl (by go_simp; rfl) ?_
  refine (now_calls _ _ _ _ _ (H.out.below Hs.out).2.1).mono ?_
  rintro e wn ⟨rfl, rfl⟩
  refine ⟨_, rfl, ?_⟩
  refine hK.out _ _ Hs.out (fun hs => ?_)
  clear hK K Hs
  have Hs := Aside0.mk hs
  clear hs
  refine norm_ (a' := ?_) ?_ ?_
  rotate_left
  · show Act.put _ (some 26) _ = _
    simp only [Act.put, List.setIfInBounds_toArray, List.set_cons_zero, List.set_cons_succ]
    rfl
  refine one_ (i := 9) (N := some 27) #[true, true, true, true, true, true, true, true, true, true, false, false, false, false, false, false, false] rfl rfl (by kernel_rfl) (by decide) (fun K hK => ?_)
  refine call_ 26 _ (by rfl) rfl (by go_simp; rfl) ?_
  refine (next_at (H.out.below Hs.out) hF.out hN.out).mono ?_
  rintro e wn ⟨rfl, hB⟩
  refine ⟨_, rfl, ?_⟩
  refine hK.out _ _ (below_step Hs.out hB) (fun hs => ?_)
  clear hK K hB Hs
  have Hs := Aside0.mk hs
  clear hs
  refine norm_ (a' := ?_) ?_ ?_
  rotate_left
  · show Act.put _ (some 27) _ = _
    simp only [Act.put, List.setIfInBounds_toArray, List.set_cons_zero, List.set_cons_succ]
    rfl
  refine pure_ (i := 10) (N := some 17) (v := ?_) (a' := ?_) #[true, true, true, true, true, true, true, true, true, true, true, false, false, false, false, false, false] rfl rfl (by kernel_rfl) (fun _ _ _ h => h) (Or.inl ⟨by rfl, ?_⟩) ?_ ?_
  rotate_left
  · intro w'
    go_simp
    with_reducible rfl
  rotate_left
  · simp only [Act.put, List.setIfInBounds_toArray, List.set_cons_zero, List.set_cons_succ]
    rfl
  refine pure_ (i := 11) (N := some 28) (v := ?_) (a' := ?_) #[true, true, true, true, true, true, true, true, true, true, true, true, false, false, false, false, false] rfl rfl (by kernel_rfl) (fun _ _ _ h => h) (Or.inl ⟨by rfl, ?_⟩) ?_ ?_
  rotate_left
  · intro w'
    go_simp
    with_reducible rfl
  rotate_left
  · simp only [Act.put, List.setIfInBounds_toArray, List.set_cons_zero, List.set_cons_succ]
    rfl
  refine pure_ (i := 12) (N := some 29) (v := ?_) (a' := ?_) #[true, true, true, true, true, true, true, true, true, true, true, true, true, false, false, false, false] rfl rfl (by kernel_rfl) (fun _ _ _ h => h) (Or.inl ⟨by rfl, ?_⟩) ?_ ?_
  rotate_left
  · intro w'
    go_simp
    with_reducible rfl
  rotate_left
  · simp only [Act.put, List.setIfInBounds_toArray, List.set_cons_zero, List.set_cons_succ]
    rfl
  refine pure_ (i := 13) (N := some 30) (v := ?_) (a' := ?_) #[true, true, true, true, true, true, true, true, true, true, true, true, true, true, false, false, false] rfl rfl (by kernel_rfl) (fun _ _ _ h => h) (Or.inl ⟨by rfl, ?_⟩) ?_ ?_
  rotate_left
  · intro w'
    go_simp
    with_reducible rfl
  rotate_left
  · simp only [Act.put, List.setIfInBounds_toArray, List.set_cons_zero, List.set_cons_succ]
    rfl
  refine pure_ (i := 14) (N := some 5) (v := ?_) (a' := ?_) #[true, true, true, true, true, true, true, true, true, true, true, true, true, true, true, false, false] rfl rfl (by kernel_rfl) (fun _ _ _ h => h) (Or.inl ⟨by rfl, ?_⟩) ?_ ?_
  rotate_left
  · intro w'
    go_simp
    with_reducible rfl
  rotate_left
  · simp only [Act.put, List.setIfInBounds_toArray, List.set_cons_zero, List.set_cons_succ]
    rfl
  refine pure_ (i := 15) (N := some 6) (v := ?_) (a' := ?_) #[true, true, true, true, true, true, true, true, true, true, true, true, true, true, true, true, false] rfl rfl (by kernel_rfl) (fun _ _ _ h => h) (Or.inl ⟨by rfl, ?_⟩) ?_ ?_
  rotate_left
  · intro w'
    go_simp
    with_reducible rfl
  rotate_left
  · simp only [Act.put, List.setIfInBounds_toArray, List.set_cons_zero, List.set_cons_succ]
    rfl
  refine pure_ (i := 16) (N := some 7) (v := ?_) (a' := ?_) #[true, true, true, true, true, true, true, true, true, true, true, true, true, true, true, true, true] rfl rfl (by kernel_rfl) (fun _ _ _ h => h) (Or.inl ⟨by rfl, ?_⟩) ?_ ?_
  rotate_left
  · intro w'
    go_simp
    with_reducible rfl
  rotate_left
  · simp only [Act.put, List.setIfInBounds_toArray, List.set_cons_zero, List.set_cons_succ]
    rfl
  refine done_ (by kernel_rfl) ?_
  have H3 := Aside0.mk (H.out.below Hs.out)
  have HB3 := Hs
  generalize wn = w3 at *
  clear Hs c4
  have c2 : w3.cell? ⟨p.gs, 2, none⟩ = some (.pointer (some ⟨p.gq, 0, none⟩)) := (blk_cell H3.out.1 2).trans rfl
  go_wp2_with fail
  refine (start_any H3.out hF.out hS.out).mono ?_
  rintro e w4 ⟨rfl, hB⟩
  have H4 := Aside0.mk (H3.out.below hB)
  have HB4 := Aside0.mk (below_step HB3.out hB)
  clear hB c2 H3 HB3
  have c2 : w4.cell? ⟨p.gs, 2, none⟩ = some (.pointer (some ⟨p.gq, 0, none⟩)) := (blk_cell H4.out.1 2).trans rfl
  go_wp2_with fail
  refine (window_at n H4.out hn.out).mono ?_
  rw [hy0.out, hy1.out, hy2.out]
  rintro e w5 ⟨rfl, hB⟩
  have H5 := Aside0.mk (H4.out.below hB)
  have HB5 := Aside0.mk (below_step HB4.out hB)
  clear hB c2 H4 HB4
  go_wp2_with fail
  go_ret3
  exact ⟨rfl, by repeat (first | exact HB5.out | apply below_alloc | apply pw_below_drewN | apply below_drew)⟩
set_option maxHeartbeats 6400000 in
set_option maxRecDepth 100000 in
theorem enter_lo (n : Nat) (j s y0 y1 y2 : Int) (h : Raw w p M G l t b a o false win maj last) (hF : Aside0 (Fit M l)) (hN : Aside0 (nextR M l t = (j, (n : Int), 0))) (hn : Aside0 (n < l.length)) (hS : Aside0 (startS M l j n = (s, 0))) (hy0 : Aside0 ((rd_T45 l (n : Int)).f0 = y0)) (hy1 : Aside0 ((rd_T45 l (n : Int)).f1 = y1)) (hy2 : Aside0 ((rd_T45 l (n : Int)).f2 = y2)) (e1 : wrap64 (281474976710656 - s) = 281474976710656 - s) (e2 : decide (281474976710656 - s < y2) = false)
    (hd : y2 < 40) (B bg : Int) (eb : wrap64 (s + y2) = bg) (ebt : wrap64 (bg - t) = bg - t) (ebB : wrap64 (bg + B) = bg + B) (hA : Aside0 (0 ≤ t ∧ t ≤ bg ∧ bg ≤ 281474976710656 ∧ 0 ≤ B ∧ bg + B ≤ 281474976710656)) (hG : Aside0 (0 ≤ G ∧ G ≤ 16777216)) (hBu : Aside0 (budget G l n = B)) :
    Calls Try.prog 9 #[.pointer (some ⟨p.gs, 0, none⟩)] w fun e w' => e = .returned (.tuple #[.int .i64 n, .int .i64 j, .int .i64 0]) ∧ Raw w' p M G l bg true (bg + B) (o || (true && decide (bg + B ≤ bg))) true n j last ∧ Moves w w' (S3 p) := by
  have c4 : w.cell? ⟨p.gs, 4, none⟩ = some (.bool false) := (blk_cell h.1 4).trans rfl
  have H := Aside0.mk h
  clear h
  go_enter Try.func9, Try.ntmps9
  go_wp2_with fail
  have Hs0 := Aside0.mk (below_drew1 (Below.refl w.heap.size w))
  refine start_ (n := 17) (S := fun w' => Below w.heap.size w w') (ds := []) #[false, false, false, false, false, false, false, false, false, false, false, false, false, false, false, false, false] (by kernel_rfl) rfl rfl Hs0.out (fun hs => ?_)
  have Hs := Aside0.mk hs
  clear hs Hs0
  refine pure_ (i := 0) (N := some 18) (v := ?_) (a' := ?_) #[true, false, false, false, false, false, false, false, false, false, false, false, false, false, false, false, false] rfl rfl (by kernel_rfl) (fun _ _ _ h => h) (Or.inl ⟨by rfl, ?_⟩) ?_ ?_
  rotate_left
  · intro w'
    go_simp
    with_reducible rfl
  rotate_left
  · simp only [Act.put, List.setIfInBounds_toArray, List.set_cons_zero, List.set_cons_succ]
    rfl
  refine pure_ (i := 1) (N := some 19) (v := ?_) (a' := ?_) #[true, true, false, false, false, false, false, false, false, false, false, false, false, false, false, false, false] rfl rfl (by kernel_rfl) (fun _ _ _ h => h) (Or.inl ⟨by rfl, ?_⟩) ?_ ?_
  rotate_left
  · intro w'
    go_simp
    with_reducible rfl
  rotate_left
  · simp only [Act.put, List.setIfInBounds_toArray, List.set_cons_zero, List.set_cons_succ]
    rfl
  refine pure_ (i := 2) (N := some 20) (v := ?_) (a' := ?_) #[true, true, true, false, false, false, false, false, false, false, false, false, false, false, false, false, false] rfl rfl (by kernel_rfl) (fun _ _ _ h => h) (Or.inl ⟨by rfl, ?_⟩) ?_ ?_
  rotate_left
  · intro w'
    go_simp
    with_reducible rfl
  rotate_left
  · simp only [Act.put, List.setIfInBounds_toArray, List.set_cons_zero, List.set_cons_succ]
    rfl
  refine take_ (i := 3) (N := some 21) (v := .pointer (some ⟨p.gq, 0, none⟩)) #[true, true, true, true, false, false, false, false, false, false, false, false, false, false, false, false, false] rfl rfl (by kernel_rfl) (fun _ _ _ h => h) (Or.inl ⟨by rfl, ?_⟩) ?_ (a' := ?_) ?_ ?_
  · intro w' hS
    have hx : w'.cell? ⟨p.gs, 2, none⟩ = some (.pointer (some ⟨p.gq, 0, none⟩)) := (hS.cell (p := ⟨p.gs, 2, none⟩) (blk_lt H.out.1)).trans ((blk_cell H.out.1 2).trans rfl)
    go_simp
  · exact Hs.out
  rotate_left
  · simp only [Act.put, List.setIfInBounds_toArray, List.set_cons_zero, List.set_cons_succ]
    rfl
  refine pure_ (i := 4) (N := some 22) (v := ?_) (a' := ?_) #[true, true, true, true, true, false, false, false, false, false, false, false, false, false, false, false, false] rfl rfl (by kernel_rfl) (fun _ _ _ h => h) (Or.inl ⟨by rfl, ?_⟩) ?_ ?_
  rotate_left
  · intro w'
    go_simp
    with_reducible rfl
  rotate_left
  · simp only [Act.put, List.setIfInBounds_toArray, List.set_cons_zero, List.set_cons_succ]
    rfl
  refine pure_ (i := 5) (N := some 23) (v := ?_) (a' := ?_) #[true, true, true, true, true, true, false, false, false, false, false, false, false, false, false, false, false] rfl rfl (by kernel_rfl) (fun _ _ _ h => h) (Or.inl ⟨by rfl, ?_⟩) ?_ ?_
  rotate_left
  · intro w'
    go_simp
    with_reducible rfl
  rotate_left
  · simp only [Act.put, List.setIfInBounds_toArray, List.set_cons_zero, List.set_cons_succ]
    rfl
  refine pure_ (i := 6) (N := some 24) (v := ?_) (a' := ?_) #[true, true, true, true, true, true, true, false, false, false, false, false, false, false, false, false, false] rfl rfl (by kernel_rfl) (fun _ _ _ h => h) (Or.inl ⟨by rfl, ?_⟩) ?_ ?_
  rotate_left
  · intro w'
    go_simp
    with_reducible rfl
  rotate_left
  · simp only [Act.put, List.setIfInBounds_toArray, List.set_cons_zero, List.set_cons_succ]
    rfl
  refine take_ (i := 7) (N := some 25) (v := .pointer (some ⟨p.gc, 0, none⟩)) #[true, true, true, true, true, true, true, true, false, false, false, false, false, false, false, false, false] rfl rfl (by kernel_rfl) (fun _ _ _ h => h) (Or.inl ⟨by rfl, ?_⟩) ?_ (a' := ?_) ?_ ?_
  · intro w' hS
    have hx : w'.cell? ⟨p.gs, 0, none⟩ = some (.pointer (some ⟨p.gc, 0, none⟩)) := (hS.cell (p := ⟨p.gs, 0, none⟩) (blk_lt H.out.1)).trans ((blk_cell H.out.1 0).trans rfl)
    go_simp
  · exact Hs.out
  rotate_left
  · simp only [Act.put, List.setIfInBounds_toArray, List.set_cons_zero, List.set_cons_succ]
    rfl
  refine one_ (i := 8) (N := some 26) #[true, true, true, true, true, true, true, true, true, false, false, false, false, false, false, false, false] rfl rfl (by kernel_rfl) (by decide) (fun K hK => ?_)
  refine call_ 10 _ (by rfl) rfl (by go_simp; rfl) ?_
  refine (now_calls _ _ _ _ _ (H.out.below Hs.out).2.1).mono ?_
  rintro e wn ⟨rfl, rfl⟩
  refine ⟨_, rfl, ?_⟩
  refine hK.out _ _ Hs.out (fun hs => ?_)
  clear hK K Hs
  have Hs := Aside0.mk hs
  clear hs
  refine norm_ (a' := ?_) ?_ ?_
  rotate_left
  · show Act.put _ (some 26) _ = _
    simp only [Act.put, List.setIfInBounds_toArray, List.set_cons_zero, List.set_cons_succ]
    rfl
  refine one_ (i := 9) (N := some 27) #[true, true, true, true, true, true, true, true, true, true, false, false, false, false, false, false, false] rfl rfl (by kernel_rfl) (by decide) (fun K hK => ?_)
  refine call_ 26 _ (by rfl) rfl (by go_simp; rfl) ?_
  refine (next_at (H.out.below Hs.out) hF.out hN.out).mono ?_
  rintro e wn ⟨rfl, hB⟩
  refine ⟨_, rfl, ?_⟩
  refine hK.out _ _ (below_step Hs.out hB) (fun hs => ?_)
  clear hK K hB Hs
  have Hs := Aside0.mk hs
  clear hs
  refine norm_ (a' := ?_) ?_ ?_
  rotate_left
  · show Act.put _ (some 27) _ = _
    simp only [Act.put, List.setIfInBounds_toArray, List.set_cons_zero, List.set_cons_succ]
    rfl
  refine pure_ (i := 10) (N := some 17) (v := ?_) (a' := ?_) #[true, true, true, true, true, true, true, true, true, true, true, false, false, false, false, false, false] rfl rfl (by kernel_rfl) (fun _ _ _ h => h) (Or.inl ⟨by rfl, ?_⟩) ?_ ?_
  rotate_left
  · intro w'
    go_simp
    with_reducible rfl
  rotate_left
  · simp only [Act.put, List.setIfInBounds_toArray, List.set_cons_zero, List.set_cons_succ]
    rfl
  refine pure_ (i := 11) (N := some 28) (v := ?_) (a' := ?_) #[true, true, true, true, true, true, true, true, true, true, true, true, false, false, false, false, false] rfl rfl (by kernel_rfl) (fun _ _ _ h => h) (Or.inl ⟨by rfl, ?_⟩) ?_ ?_
  rotate_left
  · intro w'
    go_simp
    with_reducible rfl
  rotate_left
  · simp only [Act.put, List.setIfInBounds_toArray, List.set_cons_zero, List.set_cons_succ]
    rfl
  refine pure_ (i := 12) (N := some 29) (v := ?_) (a' := ?_) #[true, true, true, true, true, true, true, true, true, true, true, true, true, false, false, false, false] rfl rfl (by kernel_rfl) (fun _ _ _ h => h) (Or.inl ⟨by rfl, ?_⟩) ?_ ?_
  rotate_left
  · intro w'
    go_simp
    with_reducible rfl
  rotate_left
  · simp only [Act.put, List.setIfInBounds_toArray, List.set_cons_zero, List.set_cons_succ]
    rfl
  refine pure_ (i := 13) (N := some 30) (v := ?_) (a' := ?_) #[true, true, true, true, true, true, true, true, true, true, true, true, true, true, false, false, false] rfl rfl (by kernel_rfl) (fun _ _ _ h => h) (Or.inl ⟨by rfl, ?_⟩) ?_ ?_
  rotate_left
  · intro w'
    go_simp
    with_reducible rfl
  rotate_left
  · simp only [Act.put, List.setIfInBounds_toArray, List.set_cons_zero, List.set_cons_succ]
    rfl
  refine pure_ (i := 14) (N := some 5) (v := ?_) (a' := ?_) #[true, true, true, true, true, true, true, true, true, true, true, true, true, true, true, false, false] rfl rfl (by kernel_rfl) (fun _ _ _ h => h) (Or.inl ⟨by rfl, ?_⟩) ?_ ?_
  rotate_left
  · intro w'
    go_simp
    with_reducible rfl
  rotate_left
  · simp only [Act.put, List.setIfInBounds_toArray, List.set_cons_zero, List.set_cons_succ]
    rfl
  refine pure_ (i := 15) (N := some 6) (v := ?_) (a' := ?_) #[true, true, true, true, true, true, true, true, true, true, true, true, true, true, true, true, false] rfl rfl (by kernel_rfl) (fun _ _ _ h => h) (Or.inl ⟨by rfl, ?_⟩) ?_ ?_
  rotate_left
  · intro w'
    go_simp
    with_reducible rfl
  rotate_left
  · simp only [Act.put, List.setIfInBounds_toArray, List.set_cons_zero, List.set_cons_succ]
    rfl
  refine pure_ (i := 16) (N := some 7) (v := ?_) (a' := ?_) #[true, true, true, true, true, true, true, true, true, true, true, true, true, true, true, true, true] rfl rfl (by kernel_rfl) (fun _ _ _ h => h) (Or.inl ⟨by rfl, ?_⟩) ?_ ?_
  rotate_left
  · intro w'
    go_simp
    with_reducible rfl
  rotate_left
  · simp only [Act.put, List.setIfInBounds_toArray, List.set_cons_zero, List.set_cons_succ]
    rfl
  refine done_ (by kernel_rfl) ?_
  have H3 := Aside0.mk (H.out.below Hs.out)
  have HB3 := Hs
  generalize wn = w3 at *
  clear Hs c4
  have c2 : w3.cell? ⟨p.gs, 2, none⟩ = some (.pointer (some ⟨p.gq, 0, none⟩)) := (blk_cell H3.out.1 2).trans rfl
  go_wp2_with fail
  refine (start_any H3.out hF.out hS.out).mono ?_
  rintro e w4 ⟨rfl, hB⟩
  have H4 := Aside0.mk (H3.out.below hB)
  have HB4 := Aside0.mk (below_step HB3.out hB)
  clear hB c2 H3 HB3
  have c2 : w4.cell? ⟨p.gs, 2, none⟩ = some (.pointer (some ⟨p.gq, 0, none⟩)) := (blk_cell H4.out.1 2).trans rfl
  go_wp2_with fail
  refine (window_at n H4.out hn.out).mono ?_
  rw [hy0.out, hy1.out, hy2.out]
  rintro e w5 ⟨rfl, hB⟩
  have H5 := Aside0.mk (H4.out.below hB)
  have HB5 := Aside0.mk (below_step HB4.out hB)
  clear hB c2 H4 HB4
  go_wp2_with fail
  rw [eb]
  have HB6 : Aside0 (Below w.heap.size w (w5.alloc (.cells #[.int .i64 y0, .int .i64 y1, .int .i64 y2] 45))) := ⟨below_alloc HB5.out _⟩
  have H6 : Aside0 (Raw (w5.alloc (.cells #[.int .i64 y0, .int .i64 y1, .int .i64 y2] 45)) p M G l t b a o false win maj last) := ⟨H5.out.below (below_alloc (Below.refl _ _) _)⟩
  generalize w5.alloc (.cells #[.int .i64 y0, .int .i64 y1, .int .i64 y2] 45) = w6 at *
  have HM6 : Aside0 (Moves w w6 (S3 p)) := ⟨Moves.of_below HB6.out _⟩
  have e3 : IntKind.i64.wrap (bg - t) = bg - t := (i64_w _).trans ebt
  have e4 : IntKind.i64.wrap (bg + B) = bg + B := (i64_w _).trans ebB
  clear HB5 H5 HB6 e1 e2 eb hd ebt ebB
  have Hs0 := Aside0.mk (below_drew1 (Below.refl w6.heap.size w6))
  refine start_ (n := 12) (S := fun w' => Below w6.heap.size w6 w') (ds := [11]) #[false, false, false, false, false, false, false, false, false, false, false, false] (by kernel_rfl) rfl rfl Hs0.out (fun hs => ?_)
  have Hs := Aside0.mk hs
  clear hs Hs0
  refine pure_ (i := 0) (N := some 71) (v := ?_) (a' := ?_) #[true, false, false, false, false, false, false, false, false, false, false, false] rfl rfl (by kernel_rfl) (fun _ _ _ h => h) (Or.inl ⟨by rfl, ?_⟩) ?_ ?_
  rotate_left
  · intro w'
    go_simp
    with_reducible rfl
  rotate_left
  · simp only [Act.put, List.setIfInBounds_toArray, List.set_cons_zero, List.set_cons_succ]
    rfl
  refine pure_ (i := 1) (N := some 72) (v := ?_) (a' := ?_) #[true, true, false, false, false, false, false, false, false, false, false, false] rfl rfl (by kernel_rfl) (fun _ _ _ h => h) (Or.inl ⟨by rfl, ?_⟩) ?_ ?_
  rotate_left
  · intro w'
    go_simp
    with_reducible rfl
  rotate_left
  · simp only [Act.put, List.setIfInBounds_toArray, List.set_cons_zero, List.set_cons_succ]
    rfl
  refine pure_ (i := 2) (N := some 73) (v := ?_) (a' := ?_) #[true, true, true, false, false, false, false, false, false, false, false, false] rfl rfl (by kernel_rfl) (fun _ _ _ h => h) (Or.inl ⟨by rfl, ?_⟩) ?_ ?_
  rotate_left
  · intro w'
    go_simp
    with_reducible rfl
  rotate_left
  · simp only [Act.put, List.setIfInBounds_toArray, List.set_cons_zero, List.set_cons_succ]
    rfl
  refine take_ (i := 3) (N := some 74) (v := .pointer (some ⟨p.gc, 0, none⟩)) #[true, true, true, true, false, false, false, false, false, false, false, false] rfl rfl (by kernel_rfl) (fun _ _ _ h => h) (Or.inl ⟨by rfl, ?_⟩) ?_ (a' := ?_) ?_ ?_
  · intro w' hS
    have hx : w'.cell? ⟨p.gs, 0, none⟩ = some (.pointer (some ⟨p.gc, 0, none⟩)) := (hS.cell (p := ⟨p.gs, 0, none⟩) (blk_lt H6.out.1)).trans ((blk_cell H6.out.1 0).trans rfl)
    go_simp
  · exact Hs.out
  rotate_left
  · simp only [Act.put, List.setIfInBounds_toArray, List.set_cons_zero, List.set_cons_succ]
    rfl
  refine pure_ (i := 4) (N := some 75) (v := ?_) (a' := ?_) #[true, true, true, true, true, false, false, false, false, false, false, false] rfl rfl (by kernel_rfl) (fun _ _ _ h => h) (Or.inl ⟨by rfl, ?_⟩) ?_ ?_
  rotate_left
  · intro w'
    go_simp
    with_reducible rfl
  rotate_left
  · simp only [Act.put, List.setIfInBounds_toArray, List.set_cons_zero, List.set_cons_succ]
    rfl
  refine pure_ (i := 5) (N := some 76) (v := ?_) (a' := ?_) #[true, true, true, true, true, true, false, false, false, false, false, false] rfl rfl (by kernel_rfl) (fun _ _ _ h => h) (Or.inl ⟨by rfl, ?_⟩) ?_ ?_
  rotate_left
  · intro w'
    go_simp
    with_reducible rfl
  rotate_left
  · simp only [Act.put, List.setIfInBounds_toArray, List.set_cons_zero, List.set_cons_succ]
    rfl
  refine pure_ (i := 6) (N := some 77) (v := ?_) (a' := ?_) #[true, true, true, true, true, true, true, false, false, false, false, false] rfl rfl (by kernel_rfl) (fun _ _ _ h => h) (Or.inl ⟨by rfl, ?_⟩) ?_ ?_
  rotate_left
  · intro w'
    go_simp
    with_reducible rfl
  rotate_left
  · simp only [Act.put, List.setIfInBounds_toArray, List.set_cons_zero, List.set_cons_succ]
    rfl
  refine pure_ (i := 7) (N := some 78) (v := ?_) (a' := ?_) #[true, true, true, true, true, true, true, true, false, false, false, false] rfl rfl (by kernel_rfl) (fun _ _ _ h => h) (Or.inl ⟨by rfl, ?_⟩) ?_ ?_
  rotate_left
  · intro w'
    go_simp
    with_reducible rfl
  rotate_left
  · simp only [Act.put, List.setIfInBounds_toArray, List.set_cons_zero, List.set_cons_succ]
    rfl
  refine take_ (i := 8) (N := some 79) (v := .pointer (some ⟨p.gc, 0, none⟩)) #[true, true, true, true, true, true, true, true, true, false, false, false] rfl rfl (by kernel_rfl) (fun _ _ _ h => h) (Or.inl ⟨by rfl, ?_⟩) ?_ (a' := ?_) ?_ ?_
  · intro w' hS
    have hx : w'.cell? ⟨p.gs, 0, none⟩ = some (.pointer (some ⟨p.gc, 0, none⟩)) := (hS.cell (p := ⟨p.gs, 0, none⟩) (blk_lt H6.out.1)).trans ((blk_cell H6.out.1 0).trans rfl)
    go_simp
  · exact Hs.out
  rotate_left
  · simp only [Act.put, List.setIfInBounds_toArray, List.set_cons_zero, List.set_cons_succ]
    rfl
  refine one_ (i := 9) (N := some 80) #[true, true, true, true, true, true, true, true, true, true, false, false] rfl rfl (by kernel_rfl) (by decide) (fun K hK => ?_)
  refine call_ 10 _ (by rfl) rfl (by go_simp; rfl) ?_
  refine (now_calls _ _ _ _ _ (H6.out.below Hs.out).2.1).mono ?_
  rintro e wn ⟨rfl, rfl⟩
  refine ⟨_, rfl, ?_⟩
  refine hK.out _ _ Hs.out (fun hs => ?_)
  clear hK K Hs
  have Hs := Aside0.mk hs
  clear hs
  refine norm_ (a' := ?_) ?_ ?_
  rotate_left
  · show Act.put _ (some 80) _ = _
    simp only [Act.put, List.setIfInBounds_toArray, List.set_cons_zero, List.set_cons_succ]
    rfl
  refine pure_ (i := 10) (N := some 81) (v := ?_) (a' := ?_) #[true, true, true, true, true, true, true, true, true, true, true, false] rfl rfl (by kernel_rfl) (fun _ _ _ h => h) (Or.inl ⟨by rfl, ?_⟩) ?_ ?_
  rotate_left
  · intro w'
    go_simp
    with_reducible rfl
  rotate_left
  · simp only [Act.put, List.setIfInBounds_toArray, List.set_cons_zero, List.set_cons_succ]
    rfl
  refine last_ (i := 11) (N := some 82) #[true, true, true, true, true, true, true, true, true, true, true, true] rfl rfl (by kernel_rfl) (by decide) (fun K hK => ?_)
  refine call_ 29 _ (by rfl) rfl (by go_simp; rfl) ?_
  refine (advance_calls _ _ _ _ _ _ (H6.out.below Hs.out).2.1 hA.out.1 (by have := hA.out; omega) (by have := hA.out; omega) (by have := hA.out; omega)).mono ?_
  rintro e w7 ⟨rfl, hc, hm⟩; have H7 := Aside0.mk ((H6.out.below Hs.out).clk hm hc); have HM7 := Aside0.mk (Moves.step (Moves.step HM6.out (Moves.of_below Hs.out _)) (m_c hm)); clear hc hm
  refine ⟨_, rfl, ?_⟩
  refine hK.out _ _ ?_
  clear hK K Hs
  refine norm_ (a' := ?_) ?_ ?_
  rotate_left
  · show Act.put _ (some 82) _ = _
    simp only [Act.put, List.setIfInBounds_toArray, List.set_cons_zero, List.set_cons_succ]
    rfl
  refine done_ (by kernel_rfl) ?_
  rw [show t + (bg - t) = bg by omega] at H7
  clear H6 HM6 e3
  go_wp2_with fail
  have Hs0 := Aside0.mk (below_drew1 (Below.refl w7.heap.size w7))
  refine start_ (n := 13) (S := fun w' => Below w7.heap.size w7 w') (ds := [12]) #[false, false, false, false, false, false, false, false, false, false, false, false, false] (by kernel_rfl) rfl rfl Hs0.out (fun hs => ?_)
  have Hs := Aside0.mk hs
  clear hs Hs0
  refine pure_ (i := 0) (N := some 83) (v := ?_) (a' := ?_) #[true, false, false, false, false, false, false, false, false, false, false, false, false] rfl rfl (by kernel_rfl) (fun _ _ _ h => h) (Or.inl ⟨by rfl, ?_⟩) ?_ ?_
  rotate_left
  · intro w'
    go_simp
    with_reducible rfl
  rotate_left
  · simp only [Act.put, List.setIfInBounds_toArray, List.set_cons_zero, List.set_cons_succ]
    rfl
  refine pure_ (i := 1) (N := some 84) (v := ?_) (a' := ?_) #[true, true, false, false, false, false, false, false, false, false, false, false, false] rfl rfl (by kernel_rfl) (fun _ _ _ h => h) (Or.inl ⟨by rfl, ?_⟩) ?_ ?_
  rotate_left
  · intro w'
    go_simp
    with_reducible rfl
  rotate_left
  · simp only [Act.put, List.setIfInBounds_toArray, List.set_cons_zero, List.set_cons_succ]
    rfl
  refine pure_ (i := 2) (N := some 85) (v := ?_) (a' := ?_) #[true, true, true, false, false, false, false, false, false, false, false, false, false] rfl rfl (by kernel_rfl) (fun _ _ _ h => h) (Or.inl ⟨by rfl, ?_⟩) ?_ ?_
  rotate_left
  · intro w'
    go_simp
    with_reducible rfl
  rotate_left
  · simp only [Act.put, List.setIfInBounds_toArray, List.set_cons_zero, List.set_cons_succ]
    rfl
  refine take_ (i := 3) (N := some 86) (v := .pointer (some ⟨p.gc, 0, none⟩)) #[true, true, true, true, false, false, false, false, false, false, false, false, false] rfl rfl (by kernel_rfl) (fun _ _ _ h => h) (Or.inl ⟨by rfl, ?_⟩) ?_ (a' := ?_) ?_ ?_
  · intro w' hS
    have hx : w'.cell? ⟨p.gs, 0, none⟩ = some (.pointer (some ⟨p.gc, 0, none⟩)) := (hS.cell (p := ⟨p.gs, 0, none⟩) (blk_lt H7.out.1)).trans ((blk_cell H7.out.1 0).trans rfl)
    go_simp
  · exact Hs.out
  rotate_left
  · simp only [Act.put, List.setIfInBounds_toArray, List.set_cons_zero, List.set_cons_succ]
    rfl
  refine pure_ (i := 4) (N := some 87) (v := ?_) (a' := ?_) #[true, true, true, true, true, false, false, false, false, false, false, false, false] rfl rfl (by kernel_rfl) (fun _ _ _ h => h) (Or.inl ⟨by rfl, ?_⟩) ?_ ?_
  rotate_left
  · intro w'
    go_simp
    with_reducible rfl
  rotate_left
  · simp only [Act.put, List.setIfInBounds_toArray, List.set_cons_zero, List.set_cons_succ]
    rfl
  refine pure_ (i := 5) (N := some 88) (v := ?_) (a' := ?_) #[true, true, true, true, true, true, false, false, false, false, false, false, false] rfl rfl (by kernel_rfl) (fun _ _ _ h => h) (Or.inl ⟨by rfl, ?_⟩) ?_ ?_
  rotate_left
  · intro w'
    go_simp
    with_reducible rfl
  rotate_left
  · simp only [Act.put, List.setIfInBounds_toArray, List.set_cons_zero, List.set_cons_succ]
    rfl
  refine pure_ (i := 6) (N := some 89) (v := ?_) (a' := ?_) #[true, true, true, true, true, true, true, false, false, false, false, false, false] rfl rfl (by kernel_rfl) (fun _ _ _ h => h) (Or.inl ⟨by rfl, ?_⟩) ?_ ?_
  rotate_left
  · intro w'
    go_simp
    with_reducible rfl
  rotate_left
  · simp only [Act.put, List.setIfInBounds_toArray, List.set_cons_zero, List.set_cons_succ]
    rfl
  refine pure_ (i := 7) (N := some 90) (v := ?_) (a' := ?_) #[true, true, true, true, true, true, true, true, false, false, false, false, false] rfl rfl (by kernel_rfl) (fun _ _ _ h => h) (Or.inl ⟨by rfl, ?_⟩) ?_ ?_
  rotate_left
  · intro w'
    go_simp
    with_reducible rfl
  rotate_left
  · simp only [Act.put, List.setIfInBounds_toArray, List.set_cons_zero, List.set_cons_succ]
    rfl
  refine take_ (i := 8) (N := some 91) (v := .pointer (some ⟨p.gq, 0, none⟩)) #[true, true, true, true, true, true, true, true, true, false, false, false, false] rfl rfl (by kernel_rfl) (fun _ _ _ h => h) (Or.inl ⟨by rfl, ?_⟩) ?_ (a' := ?_) ?_ ?_
  · intro w' hS
    have hx : w'.cell? ⟨p.gs, 2, none⟩ = some (.pointer (some ⟨p.gq, 0, none⟩)) := (hS.cell (p := ⟨p.gs, 2, none⟩) (blk_lt H7.out.1)).trans ((blk_cell H7.out.1 2).trans rfl)
    go_simp
  · exact Hs.out
  rotate_left
  · simp only [Act.put, List.setIfInBounds_toArray, List.set_cons_zero, List.set_cons_succ]
    rfl
  refine pure_ (i := 9) (N := some 92) (v := ?_) (a' := ?_) #[true, true, true, true, true, true, true, true, true, true, false, false, false] rfl rfl (by kernel_rfl) (fun _ _ _ h => h) (Or.inl ⟨by rfl, ?_⟩) ?_ ?_
  rotate_left
  · intro w'
    go_simp
    with_reducible rfl
  rotate_left
  · simp only [Act.put, List.setIfInBounds_toArray, List.set_cons_zero, List.set_cons_succ]
    rfl
  refine one_ (i := 10) (N := some 93) #[true, true, true, true, true, true, true, true, true, true, true, false, false] rfl rfl (by kernel_rfl) (by decide) (fun K hK => ?_)
  refine call_ 31 _ (by rfl) rfl (by go_simp; rfl) ?_
  refine (budget_at (H7.out.below Hs.out) hF.out hG.out hBu.out).mono ?_
  rintro e wn ⟨rfl, hB⟩
  refine ⟨_, rfl, ?_⟩
  refine hK.out _ _ (below_step Hs.out hB) (fun hs => ?_)
  clear hK K hB Hs
  have Hs := Aside0.mk hs
  clear hs
  refine norm_ (a' := ?_) ?_ ?_
  rotate_left
  · show Act.put _ (some 93) _ = _
    simp only [Act.put, List.setIfInBounds_toArray, List.set_cons_zero, List.set_cons_succ]
    rfl
  refine pure_ (i := 11) (N := some 94) (v := ?_) (a' := ?_) #[true, true, true, true, true, true, true, true, true, true, true, true, false] rfl rfl (by kernel_rfl) (fun _ _ _ h => h) (Or.inl ⟨by rfl, ?_⟩) ?_ ?_
  rotate_left
  · intro w'
    go_simp
    with_reducible rfl
  rotate_left
  · simp only [Act.put, List.setIfInBounds_toArray, List.set_cons_zero, List.set_cons_succ]
    rfl
  refine last_ (i := 12) (N := some 95) #[true, true, true, true, true, true, true, true, true, true, true, true, true] rfl rfl (by kernel_rfl) (by decide) (fun K hK => ?_)
  refine call_ 30 _ (by rfl) rfl (by go_simp; rfl) ?_
  refine (arm_calls _ _ _ _ _ _ (H7.out.below Hs.out).2.1 (by have := hA.out; omega) (by have := hA.out; omega)).mono ?_
  rintro e w8 ⟨rfl, hc, hm⟩; have H8 := Aside0.mk ((H7.out.below Hs.out).clk hm hc); have HM8 := Aside0.mk (Moves.step (Moves.step HM7.out (Moves.of_below Hs.out _)) (m_c hm)); clear hc hm
  refine ⟨_, rfl, ?_⟩
  refine hK.out _ _ ?_
  clear hK K Hs
  refine norm_ (a' := ?_) ?_ ?_
  rotate_left
  · show Act.put _ (some 95) _ = _
    simp only [Act.put, List.setIfInBounds_toArray, List.set_cons_zero, List.set_cons_succ]
    rfl
  refine done_ (by kernel_rfl) ?_
  clear H7 HM7 e4
  have c4 : w8.cell? ⟨p.gs, 4, none⟩ = some (.bool false) := (blk_cell H8.out.1 4).trans rfl
  have c5 : w8.cell? ⟨p.gs, 5, none⟩ = some (.int .i64 win) := (blk_cell H8.out.1 5).trans rfl
  have c6 : w8.cell? ⟨p.gs, 6, none⟩ = some (.int .i64 maj) := (blk_cell H8.out.1 6).trans rfl
  have c7 : w8.cell? ⟨p.gs, 7, none⟩ = some (.int .i64 last) := (blk_cell H8.out.1 7).trans rfl
  have f4 := blk_frozen H8.out.1 4
  have f5 := blk_frozen H8.out.1 5
  have f6 := blk_frozen H8.out.1 6
  have f7 := blk_frozen H8.out.1 7
  have H9 : Aside0 (Raw ((((w8.setCell ⟨p.gs, 4, none⟩ (.bool true)).setCell ⟨p.gs, 5, none⟩ (.int .i64 n)).setCell ⟨p.gs, 6, none⟩ (.int .i64 j)).setCell ⟨p.gs, 7, none⟩ (.int .i64 last)) p M G l bg true (bg + B) o true n j last) := ⟨H8.out.set4 true n j last⟩
  have HM9 : Aside0 (Moves w ((((w8.setCell ⟨p.gs, 4, none⟩ (.bool true)).setCell ⟨p.gs, 5, none⟩ (.int .i64 n)).setCell ⟨p.gs, 6, none⟩ (.int .i64 j)).setCell ⟨p.gs, 7, none⟩ (.int .i64 last)) (S3 p)) := ⟨by repeat (first | exact HM8.out | refine Moves.set (S := S3 p) ?_ (.inl rfl) _ _)⟩
  go_wp2_with fail
  refine (tick_calls H9.out).mono ?_
  rintro e w10 ⟨rfl, hR, hm⟩
  have H10 := Aside0.mk hR
  have HM10 := Aside0.mk (Moves.step HM9.out hm)
  clear hR hm c4 c5 c6 c7 f4 f5 f6 f7 H8 HM8 H9 HM9
  go_wp2_with fail
  go_ret3
  exact ⟨rfl, H10.out, HM10.out⟩
set_option maxHeartbeats 6400000 in
set_option maxRecDepth 100000 in
theorem enter_hi (n : Nat) (j s y0 y1 y2 : Int) (h : Raw w p M G l t b a o false win maj last) (hF : Aside0 (Fit M l)) (hN : Aside0 (nextR M l t = (j, (n : Int), 0))) (hn : Aside0 (n < l.length)) (hS : Aside0 (startS M l j n = (s, 0))) (hy0 : Aside0 ((rd_T45 l (n : Int)).f0 = y0)) (hy1 : Aside0 ((rd_T45 l (n : Int)).f1 = y1)) (hy2 : Aside0 ((rd_T45 l (n : Int)).f2 = y2)) (e1 : wrap64 (281474976710656 - s) = 281474976710656 - s) (e2 : decide (281474976710656 - s < y2) = false)
    (hd : ¬ y2 < 40) (B bg : Int) (eb : wrap64 (s + 40) = bg) (ebt : wrap64 (bg - t) = bg - t) (ebB : wrap64 (bg + B) = bg + B) (hA : Aside0 (0 ≤ t ∧ t ≤ bg ∧ bg ≤ 281474976710656 ∧ 0 ≤ B ∧ bg + B ≤ 281474976710656)) (hG : Aside0 (0 ≤ G ∧ G ≤ 16777216)) (hBu : Aside0 (budget G l n = B)) :
    Calls Try.prog 9 #[.pointer (some ⟨p.gs, 0, none⟩)] w fun e w' => e = .returned (.tuple #[.int .i64 n, .int .i64 j, .int .i64 0]) ∧ Raw w' p M G l bg true (bg + B) (o || (true && decide (bg + B ≤ bg))) true n j last ∧ Moves w w' (S3 p) := by
  have c4 : w.cell? ⟨p.gs, 4, none⟩ = some (.bool false) := (blk_cell h.1 4).trans rfl
  have H := Aside0.mk h
  clear h
  go_enter Try.func9, Try.ntmps9
  go_wp2_with fail
  have Hs0 := Aside0.mk (below_drew1 (Below.refl w.heap.size w))
  refine start_ (n := 17) (S := fun w' => Below w.heap.size w w') (ds := []) #[false, false, false, false, false, false, false, false, false, false, false, false, false, false, false, false, false] (by kernel_rfl) rfl rfl Hs0.out (fun hs => ?_)
  have Hs := Aside0.mk hs
  clear hs Hs0
  refine pure_ (i := 0) (N := some 18) (v := ?_) (a' := ?_) #[true, false, false, false, false, false, false, false, false, false, false, false, false, false, false, false, false] rfl rfl (by kernel_rfl) (fun _ _ _ h => h) (Or.inl ⟨by rfl, ?_⟩) ?_ ?_
  rotate_left
  · intro w'
    go_simp
    with_reducible rfl
  rotate_left
  · simp only [Act.put, List.setIfInBounds_toArray, List.set_cons_zero, List.set_cons_succ]
    rfl
  refine pure_ (i := 1) (N := some 19) (v := ?_) (a' := ?_) #[true, true, false, false, false, false, false, false, false, false, false, false, false, false, false, false, false] rfl rfl (by kernel_rfl) (fun _ _ _ h => h) (Or.inl ⟨by rfl, ?_⟩) ?_ ?_
  rotate_left
  · intro w'
    go_simp
    with_reducible rfl
  rotate_left
  · simp only [Act.put, List.setIfInBounds_toArray, List.set_cons_zero, List.set_cons_succ]
    rfl
  refine pure_ (i := 2) (N := some 20) (v := ?_) (a' := ?_) #[true, true, true, false, false, false, false, false, false, false, false, false, false, false, false, false, false] rfl rfl (by kernel_rfl) (fun _ _ _ h => h) (Or.inl ⟨by rfl, ?_⟩) ?_ ?_
  rotate_left
  · intro w'
    go_simp
    with_reducible rfl
  rotate_left
  · simp only [Act.put, List.setIfInBounds_toArray, List.set_cons_zero, List.set_cons_succ]
    rfl
  refine take_ (i := 3) (N := some 21) (v := .pointer (some ⟨p.gq, 0, none⟩)) #[true, true, true, true, false, false, false, false, false, false, false, false, false, false, false, false, false] rfl rfl (by kernel_rfl) (fun _ _ _ h => h) (Or.inl ⟨by rfl, ?_⟩) ?_ (a' := ?_) ?_ ?_
  · intro w' hS
    have hx : w'.cell? ⟨p.gs, 2, none⟩ = some (.pointer (some ⟨p.gq, 0, none⟩)) := (hS.cell (p := ⟨p.gs, 2, none⟩) (blk_lt H.out.1)).trans ((blk_cell H.out.1 2).trans rfl)
    go_simp
  · exact Hs.out
  rotate_left
  · simp only [Act.put, List.setIfInBounds_toArray, List.set_cons_zero, List.set_cons_succ]
    rfl
  refine pure_ (i := 4) (N := some 22) (v := ?_) (a' := ?_) #[true, true, true, true, true, false, false, false, false, false, false, false, false, false, false, false, false] rfl rfl (by kernel_rfl) (fun _ _ _ h => h) (Or.inl ⟨by rfl, ?_⟩) ?_ ?_
  rotate_left
  · intro w'
    go_simp
    with_reducible rfl
  rotate_left
  · simp only [Act.put, List.setIfInBounds_toArray, List.set_cons_zero, List.set_cons_succ]
    rfl
  refine pure_ (i := 5) (N := some 23) (v := ?_) (a' := ?_) #[true, true, true, true, true, true, false, false, false, false, false, false, false, false, false, false, false] rfl rfl (by kernel_rfl) (fun _ _ _ h => h) (Or.inl ⟨by rfl, ?_⟩) ?_ ?_
  rotate_left
  · intro w'
    go_simp
    with_reducible rfl
  rotate_left
  · simp only [Act.put, List.setIfInBounds_toArray, List.set_cons_zero, List.set_cons_succ]
    rfl
  refine pure_ (i := 6) (N := some 24) (v := ?_) (a' := ?_) #[true, true, true, true, true, true, true, false, false, false, false, false, false, false, false, false, false] rfl rfl (by kernel_rfl) (fun _ _ _ h => h) (Or.inl ⟨by rfl, ?_⟩) ?_ ?_
  rotate_left
  · intro w'
    go_simp
    with_reducible rfl
  rotate_left
  · simp only [Act.put, List.setIfInBounds_toArray, List.set_cons_zero, List.set_cons_succ]
    rfl
  refine take_ (i := 7) (N := some 25) (v := .pointer (some ⟨p.gc, 0, none⟩)) #[true, true, true, true, true, true, true, true, false, false, false, false, false, false, false, false, false] rfl rfl (by kernel_rfl) (fun _ _ _ h => h) (Or.inl ⟨by rfl, ?_⟩) ?_ (a' := ?_) ?_ ?_
  · intro w' hS
    have hx : w'.cell? ⟨p.gs, 0, none⟩ = some (.pointer (some ⟨p.gc, 0, none⟩)) := (hS.cell (p := ⟨p.gs, 0, none⟩) (blk_lt H.out.1)).trans ((blk_cell H.out.1 0).trans rfl)
    go_simp
  · exact Hs.out
  rotate_left
  · simp only [Act.put, List.setIfInBounds_toArray, List.set_cons_zero, List.set_cons_succ]
    rfl
  refine one_ (i := 8) (N := some 26) #[true, true, true, true, true, true, true, true, true, false, false, false, false, false, false, false, false] rfl rfl (by kernel_rfl) (by decide) (fun K hK => ?_)
  refine call_ 10 _ (by rfl) rfl (by go_simp; rfl) ?_
  refine (now_calls _ _ _ _ _ (H.out.below Hs.out).2.1).mono ?_
  rintro e wn ⟨rfl, rfl⟩
  refine ⟨_, rfl, ?_⟩
  refine hK.out _ _ Hs.out (fun hs => ?_)
  clear hK K Hs
  have Hs := Aside0.mk hs
  clear hs
  refine norm_ (a' := ?_) ?_ ?_
  rotate_left
  · show Act.put _ (some 26) _ = _
    simp only [Act.put, List.setIfInBounds_toArray, List.set_cons_zero, List.set_cons_succ]
    rfl
  refine one_ (i := 9) (N := some 27) #[true, true, true, true, true, true, true, true, true, true, false, false, false, false, false, false, false] rfl rfl (by kernel_rfl) (by decide) (fun K hK => ?_)
  refine call_ 26 _ (by rfl) rfl (by go_simp; rfl) ?_
  refine (next_at (H.out.below Hs.out) hF.out hN.out).mono ?_
  rintro e wn ⟨rfl, hB⟩
  refine ⟨_, rfl, ?_⟩
  refine hK.out _ _ (below_step Hs.out hB) (fun hs => ?_)
  clear hK K hB Hs
  have Hs := Aside0.mk hs
  clear hs
  refine norm_ (a' := ?_) ?_ ?_
  rotate_left
  · show Act.put _ (some 27) _ = _
    simp only [Act.put, List.setIfInBounds_toArray, List.set_cons_zero, List.set_cons_succ]
    rfl
  refine pure_ (i := 10) (N := some 17) (v := ?_) (a' := ?_) #[true, true, true, true, true, true, true, true, true, true, true, false, false, false, false, false, false] rfl rfl (by kernel_rfl) (fun _ _ _ h => h) (Or.inl ⟨by rfl, ?_⟩) ?_ ?_
  rotate_left
  · intro w'
    go_simp
    with_reducible rfl
  rotate_left
  · simp only [Act.put, List.setIfInBounds_toArray, List.set_cons_zero, List.set_cons_succ]
    rfl
  refine pure_ (i := 11) (N := some 28) (v := ?_) (a' := ?_) #[true, true, true, true, true, true, true, true, true, true, true, true, false, false, false, false, false] rfl rfl (by kernel_rfl) (fun _ _ _ h => h) (Or.inl ⟨by rfl, ?_⟩) ?_ ?_
  rotate_left
  · intro w'
    go_simp
    with_reducible rfl
  rotate_left
  · simp only [Act.put, List.setIfInBounds_toArray, List.set_cons_zero, List.set_cons_succ]
    rfl
  refine pure_ (i := 12) (N := some 29) (v := ?_) (a' := ?_) #[true, true, true, true, true, true, true, true, true, true, true, true, true, false, false, false, false] rfl rfl (by kernel_rfl) (fun _ _ _ h => h) (Or.inl ⟨by rfl, ?_⟩) ?_ ?_
  rotate_left
  · intro w'
    go_simp
    with_reducible rfl
  rotate_left
  · simp only [Act.put, List.setIfInBounds_toArray, List.set_cons_zero, List.set_cons_succ]
    rfl
  refine pure_ (i := 13) (N := some 30) (v := ?_) (a' := ?_) #[true, true, true, true, true, true, true, true, true, true, true, true, true, true, false, false, false] rfl rfl (by kernel_rfl) (fun _ _ _ h => h) (Or.inl ⟨by rfl, ?_⟩) ?_ ?_
  rotate_left
  · intro w'
    go_simp
    with_reducible rfl
  rotate_left
  · simp only [Act.put, List.setIfInBounds_toArray, List.set_cons_zero, List.set_cons_succ]
    rfl
  refine pure_ (i := 14) (N := some 5) (v := ?_) (a' := ?_) #[true, true, true, true, true, true, true, true, true, true, true, true, true, true, true, false, false] rfl rfl (by kernel_rfl) (fun _ _ _ h => h) (Or.inl ⟨by rfl, ?_⟩) ?_ ?_
  rotate_left
  · intro w'
    go_simp
    with_reducible rfl
  rotate_left
  · simp only [Act.put, List.setIfInBounds_toArray, List.set_cons_zero, List.set_cons_succ]
    rfl
  refine pure_ (i := 15) (N := some 6) (v := ?_) (a' := ?_) #[true, true, true, true, true, true, true, true, true, true, true, true, true, true, true, true, false] rfl rfl (by kernel_rfl) (fun _ _ _ h => h) (Or.inl ⟨by rfl, ?_⟩) ?_ ?_
  rotate_left
  · intro w'
    go_simp
    with_reducible rfl
  rotate_left
  · simp only [Act.put, List.setIfInBounds_toArray, List.set_cons_zero, List.set_cons_succ]
    rfl
  refine pure_ (i := 16) (N := some 7) (v := ?_) (a' := ?_) #[true, true, true, true, true, true, true, true, true, true, true, true, true, true, true, true, true] rfl rfl (by kernel_rfl) (fun _ _ _ h => h) (Or.inl ⟨by rfl, ?_⟩) ?_ ?_
  rotate_left
  · intro w'
    go_simp
    with_reducible rfl
  rotate_left
  · simp only [Act.put, List.setIfInBounds_toArray, List.set_cons_zero, List.set_cons_succ]
    rfl
  refine done_ (by kernel_rfl) ?_
  have H3 := Aside0.mk (H.out.below Hs.out)
  have HB3 := Hs
  generalize wn = w3 at *
  clear Hs c4
  have c2 : w3.cell? ⟨p.gs, 2, none⟩ = some (.pointer (some ⟨p.gq, 0, none⟩)) := (blk_cell H3.out.1 2).trans rfl
  go_wp2_with fail
  refine (start_any H3.out hF.out hS.out).mono ?_
  rintro e w4 ⟨rfl, hB⟩
  have H4 := Aside0.mk (H3.out.below hB)
  have HB4 := Aside0.mk (below_step HB3.out hB)
  clear hB c2 H3 HB3
  have c2 : w4.cell? ⟨p.gs, 2, none⟩ = some (.pointer (some ⟨p.gq, 0, none⟩)) := (blk_cell H4.out.1 2).trans rfl
  go_wp2_with fail
  refine (window_at n H4.out hn.out).mono ?_
  rw [hy0.out, hy1.out, hy2.out]
  rintro e w5 ⟨rfl, hB⟩
  have H5 := Aside0.mk (H4.out.below hB)
  have HB5 := Aside0.mk (below_step HB4.out hB)
  clear hB c2 H4 HB4
  go_wp2_with fail
  rw [eb]
  have HB6 : Aside0 (Below w.heap.size w (w5.alloc (.cells #[.int .i64 y0, .int .i64 y1, .int .i64 y2] 45))) := ⟨below_alloc HB5.out _⟩
  have H6 : Aside0 (Raw (w5.alloc (.cells #[.int .i64 y0, .int .i64 y1, .int .i64 y2] 45)) p M G l t b a o false win maj last) := ⟨H5.out.below (below_alloc (Below.refl _ _) _)⟩
  generalize w5.alloc (.cells #[.int .i64 y0, .int .i64 y1, .int .i64 y2] 45) = w6 at *
  have HM6 : Aside0 (Moves w w6 (S3 p)) := ⟨Moves.of_below HB6.out _⟩
  have e3 : IntKind.i64.wrap (bg - t) = bg - t := (i64_w _).trans ebt
  have e4 : IntKind.i64.wrap (bg + B) = bg + B := (i64_w _).trans ebB
  clear HB5 H5 HB6 e1 e2 eb hd ebt ebB
  have Hs0 := Aside0.mk (below_drew1 (Below.refl w6.heap.size w6))
  refine start_ (n := 12) (S := fun w' => Below w6.heap.size w6 w') (ds := [11]) #[false, false, false, false, false, false, false, false, false, false, false, false] (by kernel_rfl) rfl rfl Hs0.out (fun hs => ?_)
  have Hs := Aside0.mk hs
  clear hs Hs0
  refine pure_ (i := 0) (N := some 71) (v := ?_) (a' := ?_) #[true, false, false, false, false, false, false, false, false, false, false, false] rfl rfl (by kernel_rfl) (fun _ _ _ h => h) (Or.inl ⟨by rfl, ?_⟩) ?_ ?_
  rotate_left
  · intro w'
    go_simp
    with_reducible rfl
  rotate_left
  · simp only [Act.put, List.setIfInBounds_toArray, List.set_cons_zero, List.set_cons_succ]
    rfl
  refine pure_ (i := 1) (N := some 72) (v := ?_) (a' := ?_) #[true, true, false, false, false, false, false, false, false, false, false, false] rfl rfl (by kernel_rfl) (fun _ _ _ h => h) (Or.inl ⟨by rfl, ?_⟩) ?_ ?_
  rotate_left
  · intro w'
    go_simp
    with_reducible rfl
  rotate_left
  · simp only [Act.put, List.setIfInBounds_toArray, List.set_cons_zero, List.set_cons_succ]
    rfl
  refine pure_ (i := 2) (N := some 73) (v := ?_) (a' := ?_) #[true, true, true, false, false, false, false, false, false, false, false, false] rfl rfl (by kernel_rfl) (fun _ _ _ h => h) (Or.inl ⟨by rfl, ?_⟩) ?_ ?_
  rotate_left
  · intro w'
    go_simp
    with_reducible rfl
  rotate_left
  · simp only [Act.put, List.setIfInBounds_toArray, List.set_cons_zero, List.set_cons_succ]
    rfl
  refine take_ (i := 3) (N := some 74) (v := .pointer (some ⟨p.gc, 0, none⟩)) #[true, true, true, true, false, false, false, false, false, false, false, false] rfl rfl (by kernel_rfl) (fun _ _ _ h => h) (Or.inl ⟨by rfl, ?_⟩) ?_ (a' := ?_) ?_ ?_
  · intro w' hS
    have hx : w'.cell? ⟨p.gs, 0, none⟩ = some (.pointer (some ⟨p.gc, 0, none⟩)) := (hS.cell (p := ⟨p.gs, 0, none⟩) (blk_lt H6.out.1)).trans ((blk_cell H6.out.1 0).trans rfl)
    go_simp
  · exact Hs.out
  rotate_left
  · simp only [Act.put, List.setIfInBounds_toArray, List.set_cons_zero, List.set_cons_succ]
    rfl
  refine pure_ (i := 4) (N := some 75) (v := ?_) (a' := ?_) #[true, true, true, true, true, false, false, false, false, false, false, false] rfl rfl (by kernel_rfl) (fun _ _ _ h => h) (Or.inl ⟨by rfl, ?_⟩) ?_ ?_
  rotate_left
  · intro w'
    go_simp
    with_reducible rfl
  rotate_left
  · simp only [Act.put, List.setIfInBounds_toArray, List.set_cons_zero, List.set_cons_succ]
    rfl
  refine pure_ (i := 5) (N := some 76) (v := ?_) (a' := ?_) #[true, true, true, true, true, true, false, false, false, false, false, false] rfl rfl (by kernel_rfl) (fun _ _ _ h => h) (Or.inl ⟨by rfl, ?_⟩) ?_ ?_
  rotate_left
  · intro w'
    go_simp
    with_reducible rfl
  rotate_left
  · simp only [Act.put, List.setIfInBounds_toArray, List.set_cons_zero, List.set_cons_succ]
    rfl
  refine pure_ (i := 6) (N := some 77) (v := ?_) (a' := ?_) #[true, true, true, true, true, true, true, false, false, false, false, false] rfl rfl (by kernel_rfl) (fun _ _ _ h => h) (Or.inl ⟨by rfl, ?_⟩) ?_ ?_
  rotate_left
  · intro w'
    go_simp
    with_reducible rfl
  rotate_left
  · simp only [Act.put, List.setIfInBounds_toArray, List.set_cons_zero, List.set_cons_succ]
    rfl
  refine pure_ (i := 7) (N := some 78) (v := ?_) (a' := ?_) #[true, true, true, true, true, true, true, true, false, false, false, false] rfl rfl (by kernel_rfl) (fun _ _ _ h => h) (Or.inl ⟨by rfl, ?_⟩) ?_ ?_
  rotate_left
  · intro w'
    go_simp
    with_reducible rfl
  rotate_left
  · simp only [Act.put, List.setIfInBounds_toArray, List.set_cons_zero, List.set_cons_succ]
    rfl
  refine take_ (i := 8) (N := some 79) (v := .pointer (some ⟨p.gc, 0, none⟩)) #[true, true, true, true, true, true, true, true, true, false, false, false] rfl rfl (by kernel_rfl) (fun _ _ _ h => h) (Or.inl ⟨by rfl, ?_⟩) ?_ (a' := ?_) ?_ ?_
  · intro w' hS
    have hx : w'.cell? ⟨p.gs, 0, none⟩ = some (.pointer (some ⟨p.gc, 0, none⟩)) := (hS.cell (p := ⟨p.gs, 0, none⟩) (blk_lt H6.out.1)).trans ((blk_cell H6.out.1 0).trans rfl)
    go_simp
  · exact Hs.out
  rotate_left
  · simp only [Act.put, List.setIfInBounds_toArray, List.set_cons_zero, List.set_cons_succ]
    rfl
  refine one_ (i := 9) (N := some 80) #[true, true, true, true, true, true, true, true, true, true, false, false] rfl rfl (by kernel_rfl) (by decide) (fun K hK => ?_)
  refine call_ 10 _ (by rfl) rfl (by go_simp; rfl) ?_
  refine (now_calls _ _ _ _ _ (H6.out.below Hs.out).2.1).mono ?_
  rintro e wn ⟨rfl, rfl⟩
  refine ⟨_, rfl, ?_⟩
  refine hK.out _ _ Hs.out (fun hs => ?_)
  clear hK K Hs
  have Hs := Aside0.mk hs
  clear hs
  refine norm_ (a' := ?_) ?_ ?_
  rotate_left
  · show Act.put _ (some 80) _ = _
    simp only [Act.put, List.setIfInBounds_toArray, List.set_cons_zero, List.set_cons_succ]
    rfl
  refine pure_ (i := 10) (N := some 81) (v := ?_) (a' := ?_) #[true, true, true, true, true, true, true, true, true, true, true, false] rfl rfl (by kernel_rfl) (fun _ _ _ h => h) (Or.inl ⟨by rfl, ?_⟩) ?_ ?_
  rotate_left
  · intro w'
    go_simp
    with_reducible rfl
  rotate_left
  · simp only [Act.put, List.setIfInBounds_toArray, List.set_cons_zero, List.set_cons_succ]
    rfl
  refine last_ (i := 11) (N := some 82) #[true, true, true, true, true, true, true, true, true, true, true, true] rfl rfl (by kernel_rfl) (by decide) (fun K hK => ?_)
  refine call_ 29 _ (by rfl) rfl (by go_simp; rfl) ?_
  refine (advance_calls _ _ _ _ _ _ (H6.out.below Hs.out).2.1 hA.out.1 (by have := hA.out; omega) (by have := hA.out; omega) (by have := hA.out; omega)).mono ?_
  rintro e w7 ⟨rfl, hc, hm⟩; have H7 := Aside0.mk ((H6.out.below Hs.out).clk hm hc); have HM7 := Aside0.mk (Moves.step (Moves.step HM6.out (Moves.of_below Hs.out _)) (m_c hm)); clear hc hm
  refine ⟨_, rfl, ?_⟩
  refine hK.out _ _ ?_
  clear hK K Hs
  refine norm_ (a' := ?_) ?_ ?_
  rotate_left
  · show Act.put _ (some 82) _ = _
    simp only [Act.put, List.setIfInBounds_toArray, List.set_cons_zero, List.set_cons_succ]
    rfl
  refine done_ (by kernel_rfl) ?_
  rw [show t + (bg - t) = bg by omega] at H7
  clear H6 HM6 e3
  go_wp2_with fail
  have Hs0 := Aside0.mk (below_drew1 (Below.refl w7.heap.size w7))
  refine start_ (n := 13) (S := fun w' => Below w7.heap.size w7 w') (ds := [12]) #[false, false, false, false, false, false, false, false, false, false, false, false, false] (by kernel_rfl) rfl rfl Hs0.out (fun hs => ?_)
  have Hs := Aside0.mk hs
  clear hs Hs0
  refine pure_ (i := 0) (N := some 83) (v := ?_) (a' := ?_) #[true, false, false, false, false, false, false, false, false, false, false, false, false] rfl rfl (by kernel_rfl) (fun _ _ _ h => h) (Or.inl ⟨by rfl, ?_⟩) ?_ ?_
  rotate_left
  · intro w'
    go_simp
    with_reducible rfl
  rotate_left
  · simp only [Act.put, List.setIfInBounds_toArray, List.set_cons_zero, List.set_cons_succ]
    rfl
  refine pure_ (i := 1) (N := some 84) (v := ?_) (a' := ?_) #[true, true, false, false, false, false, false, false, false, false, false, false, false] rfl rfl (by kernel_rfl) (fun _ _ _ h => h) (Or.inl ⟨by rfl, ?_⟩) ?_ ?_
  rotate_left
  · intro w'
    go_simp
    with_reducible rfl
  rotate_left
  · simp only [Act.put, List.setIfInBounds_toArray, List.set_cons_zero, List.set_cons_succ]
    rfl
  refine pure_ (i := 2) (N := some 85) (v := ?_) (a' := ?_) #[true, true, true, false, false, false, false, false, false, false, false, false, false] rfl rfl (by kernel_rfl) (fun _ _ _ h => h) (Or.inl ⟨by rfl, ?_⟩) ?_ ?_
  rotate_left
  · intro w'
    go_simp
    with_reducible rfl
  rotate_left
  · simp only [Act.put, List.setIfInBounds_toArray, List.set_cons_zero, List.set_cons_succ]
    rfl
  refine take_ (i := 3) (N := some 86) (v := .pointer (some ⟨p.gc, 0, none⟩)) #[true, true, true, true, false, false, false, false, false, false, false, false, false] rfl rfl (by kernel_rfl) (fun _ _ _ h => h) (Or.inl ⟨by rfl, ?_⟩) ?_ (a' := ?_) ?_ ?_
  · intro w' hS
    have hx : w'.cell? ⟨p.gs, 0, none⟩ = some (.pointer (some ⟨p.gc, 0, none⟩)) := (hS.cell (p := ⟨p.gs, 0, none⟩) (blk_lt H7.out.1)).trans ((blk_cell H7.out.1 0).trans rfl)
    go_simp
  · exact Hs.out
  rotate_left
  · simp only [Act.put, List.setIfInBounds_toArray, List.set_cons_zero, List.set_cons_succ]
    rfl
  refine pure_ (i := 4) (N := some 87) (v := ?_) (a' := ?_) #[true, true, true, true, true, false, false, false, false, false, false, false, false] rfl rfl (by kernel_rfl) (fun _ _ _ h => h) (Or.inl ⟨by rfl, ?_⟩) ?_ ?_
  rotate_left
  · intro w'
    go_simp
    with_reducible rfl
  rotate_left
  · simp only [Act.put, List.setIfInBounds_toArray, List.set_cons_zero, List.set_cons_succ]
    rfl
  refine pure_ (i := 5) (N := some 88) (v := ?_) (a' := ?_) #[true, true, true, true, true, true, false, false, false, false, false, false, false] rfl rfl (by kernel_rfl) (fun _ _ _ h => h) (Or.inl ⟨by rfl, ?_⟩) ?_ ?_
  rotate_left
  · intro w'
    go_simp
    with_reducible rfl
  rotate_left
  · simp only [Act.put, List.setIfInBounds_toArray, List.set_cons_zero, List.set_cons_succ]
    rfl
  refine pure_ (i := 6) (N := some 89) (v := ?_) (a' := ?_) #[true, true, true, true, true, true, true, false, false, false, false, false, false] rfl rfl (by kernel_rfl) (fun _ _ _ h => h) (Or.inl ⟨by rfl, ?_⟩) ?_ ?_
  rotate_left
  · intro w'
    go_simp
    with_reducible rfl
  rotate_left
  · simp only [Act.put, List.setIfInBounds_toArray, List.set_cons_zero, List.set_cons_succ]
    rfl
  refine pure_ (i := 7) (N := some 90) (v := ?_) (a' := ?_) #[true, true, true, true, true, true, true, true, false, false, false, false, false] rfl rfl (by kernel_rfl) (fun _ _ _ h => h) (Or.inl ⟨by rfl, ?_⟩) ?_ ?_
  rotate_left
  · intro w'
    go_simp
    with_reducible rfl
  rotate_left
  · simp only [Act.put, List.setIfInBounds_toArray, List.set_cons_zero, List.set_cons_succ]
    rfl
  refine take_ (i := 8) (N := some 91) (v := .pointer (some ⟨p.gq, 0, none⟩)) #[true, true, true, true, true, true, true, true, true, false, false, false, false] rfl rfl (by kernel_rfl) (fun _ _ _ h => h) (Or.inl ⟨by rfl, ?_⟩) ?_ (a' := ?_) ?_ ?_
  · intro w' hS
    have hx : w'.cell? ⟨p.gs, 2, none⟩ = some (.pointer (some ⟨p.gq, 0, none⟩)) := (hS.cell (p := ⟨p.gs, 2, none⟩) (blk_lt H7.out.1)).trans ((blk_cell H7.out.1 2).trans rfl)
    go_simp
  · exact Hs.out
  rotate_left
  · simp only [Act.put, List.setIfInBounds_toArray, List.set_cons_zero, List.set_cons_succ]
    rfl
  refine pure_ (i := 9) (N := some 92) (v := ?_) (a' := ?_) #[true, true, true, true, true, true, true, true, true, true, false, false, false] rfl rfl (by kernel_rfl) (fun _ _ _ h => h) (Or.inl ⟨by rfl, ?_⟩) ?_ ?_
  rotate_left
  · intro w'
    go_simp
    with_reducible rfl
  rotate_left
  · simp only [Act.put, List.setIfInBounds_toArray, List.set_cons_zero, List.set_cons_succ]
    rfl
  refine one_ (i := 10) (N := some 93) #[true, true, true, true, true, true, true, true, true, true, true, false, false] rfl rfl (by kernel_rfl) (by decide) (fun K hK => ?_)
  refine call_ 31 _ (by rfl) rfl (by go_simp; rfl) ?_
  refine (budget_at (H7.out.below Hs.out) hF.out hG.out hBu.out).mono ?_
  rintro e wn ⟨rfl, hB⟩
  refine ⟨_, rfl, ?_⟩
  refine hK.out _ _ (below_step Hs.out hB) (fun hs => ?_)
  clear hK K hB Hs
  have Hs := Aside0.mk hs
  clear hs
  refine norm_ (a' := ?_) ?_ ?_
  rotate_left
  · show Act.put _ (some 93) _ = _
    simp only [Act.put, List.setIfInBounds_toArray, List.set_cons_zero, List.set_cons_succ]
    rfl
  refine pure_ (i := 11) (N := some 94) (v := ?_) (a' := ?_) #[true, true, true, true, true, true, true, true, true, true, true, true, false] rfl rfl (by kernel_rfl) (fun _ _ _ h => h) (Or.inl ⟨by rfl, ?_⟩) ?_ ?_
  rotate_left
  · intro w'
    go_simp
    with_reducible rfl
  rotate_left
  · simp only [Act.put, List.setIfInBounds_toArray, List.set_cons_zero, List.set_cons_succ]
    rfl
  refine last_ (i := 12) (N := some 95) #[true, true, true, true, true, true, true, true, true, true, true, true, true] rfl rfl (by kernel_rfl) (by decide) (fun K hK => ?_)
  refine call_ 30 _ (by rfl) rfl (by go_simp; rfl) ?_
  refine (arm_calls _ _ _ _ _ _ (H7.out.below Hs.out).2.1 (by have := hA.out; omega) (by have := hA.out; omega)).mono ?_
  rintro e w8 ⟨rfl, hc, hm⟩; have H8 := Aside0.mk ((H7.out.below Hs.out).clk hm hc); have HM8 := Aside0.mk (Moves.step (Moves.step HM7.out (Moves.of_below Hs.out _)) (m_c hm)); clear hc hm
  refine ⟨_, rfl, ?_⟩
  refine hK.out _ _ ?_
  clear hK K Hs
  refine norm_ (a' := ?_) ?_ ?_
  rotate_left
  · show Act.put _ (some 95) _ = _
    simp only [Act.put, List.setIfInBounds_toArray, List.set_cons_zero, List.set_cons_succ]
    rfl
  refine done_ (by kernel_rfl) ?_
  clear H7 HM7 e4
  have c4 : w8.cell? ⟨p.gs, 4, none⟩ = some (.bool false) := (blk_cell H8.out.1 4).trans rfl
  have c5 : w8.cell? ⟨p.gs, 5, none⟩ = some (.int .i64 win) := (blk_cell H8.out.1 5).trans rfl
  have c6 : w8.cell? ⟨p.gs, 6, none⟩ = some (.int .i64 maj) := (blk_cell H8.out.1 6).trans rfl
  have c7 : w8.cell? ⟨p.gs, 7, none⟩ = some (.int .i64 last) := (blk_cell H8.out.1 7).trans rfl
  have f4 := blk_frozen H8.out.1 4
  have f5 := blk_frozen H8.out.1 5
  have f6 := blk_frozen H8.out.1 6
  have f7 := blk_frozen H8.out.1 7
  have H9 : Aside0 (Raw ((((w8.setCell ⟨p.gs, 4, none⟩ (.bool true)).setCell ⟨p.gs, 5, none⟩ (.int .i64 n)).setCell ⟨p.gs, 6, none⟩ (.int .i64 j)).setCell ⟨p.gs, 7, none⟩ (.int .i64 last)) p M G l bg true (bg + B) o true n j last) := ⟨H8.out.set4 true n j last⟩
  have HM9 : Aside0 (Moves w ((((w8.setCell ⟨p.gs, 4, none⟩ (.bool true)).setCell ⟨p.gs, 5, none⟩ (.int .i64 n)).setCell ⟨p.gs, 6, none⟩ (.int .i64 j)).setCell ⟨p.gs, 7, none⟩ (.int .i64 last)) (S3 p)) := ⟨by repeat (first | exact HM8.out | refine Moves.set (S := S3 p) ?_ (.inl rfl) _ _)⟩
  go_wp2_with fail
  refine (tick_calls H9.out).mono ?_
  rintro e w10 ⟨rfl, hR, hm⟩
  have H10 := Aside0.mk hR
  have HM10 := Aside0.mk (Moves.step HM9.out hm)
  clear hR hm c4 c5 c6 c7 f4 f5 f6 f7 H8 HM8 H9 HM9
  go_wp2_with fail
  go_ret3
  exact ⟨rfl, H10.out, HM10.out⟩
theorem enter_ok (n : Nat) (j s y0 y1 y2 : Int) (h : Raw w p M G l t b a o false win maj last) (hF : Aside0 (Fit M l)) (hN : Aside0 (nextR M l t = (j, (n : Int), 0))) (hn : Aside0 (n < l.length)) (hS : Aside0 (startS M l j n = (s, 0))) (hy0 : Aside0 ((rd_T45 l (n : Int)).f0 = y0)) (hy1 : Aside0 ((rd_T45 l (n : Int)).f1 = y1)) (hy2 : Aside0 ((rd_T45 l (n : Int)).f2 = y2)) (s0 : 0 ≤ s) (s1 : s ≤ 281474976710656 - y2) (hy : 1 ≤ y2)
    (B bg : Int) (hb : s + min 40 y2 = bg) (hA : 0 ≤ t ∧ t ≤ bg ∧ 0 ≤ B ∧ bg + B ≤ 281474976710656) (hG : Aside0 (0 ≤ G ∧ G ≤ 16777216)) (hBu : Aside0 (budget G l n = B)) :
    Calls Try.prog 9 #[.pointer (some ⟨p.gs, 0, none⟩)] w fun e w' => e = .returned (.tuple #[.int .i64 n, .int .i64 j, .int .i64 0]) ∧ Raw w' p M G l bg true (bg + B) (o || (true && decide (bg + B ≤ bg))) true n j last ∧ Moves w w' (S3 p) := by
  by_cases hd : y2 < 40
  · have hb2 : s + y2 = bg := by omega
    exact enter_lo n j s y0 y1 y2 h hF hN hn hS hy0 hy1 hy2 (w64 (by omega) (by omega)) (decide_eq_false (by omega)) hd B bg ((w64 (by omega) (by omega)).trans hb2) (w64 (by omega) (by omega)) (w64 (by omega) (by omega)) ⟨by omega⟩ hG hBu
  · have hb2 : s + 40 = bg := by omega
    exact enter_hi n j s y0 y1 y2 h hF hN hn hS hy0 hy1 hy2 (w64 (by omega) (by omega)) (decide_eq_false (by omega)) hd B bg ((w64 (by omega) (by omega)).trans hb2) (w64 (by omega) (by omega)) (w64 (by omega) (by omega)) ⟨by omega⟩ hG hBu
end Go.Proofs.Ytagnlbpndldfeaa.SEnter
