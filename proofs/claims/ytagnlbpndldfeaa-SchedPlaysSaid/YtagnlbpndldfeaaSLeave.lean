/- Leaving a window. -/
import Derived.Test.YtagnlbpndldfeaaSState
namespace Go.Proofs.Ytagnlbpndldfeaa.SLeave
open Go.RowKit Go.Proofs.Ytagnlbpndldfeaa.PSchedPlays Go.Proofs.YtagnlbpndldfeaaW.PrintWords Go.Proofs.YtagnlbpndldfeaaW.PrintLast Go.Proofs.YtagnlbpndldfeaaW.PrintMore Go.Proofs.Ytagnlbpndldfeaa.Aid Go.Proofs.Ytagnlbpndldfeaa.PlanBase Go.Proofs.Ytagnlbpndldfeaa.SPlanAt Go.Proofs.Ytagnlbpndldfeaa.SPlanStart Go.Proofs.Ytagnlbpndldfeaa.SBase Go.Proofs.Ytagnlbpndldfeaa.SState
set_option linter.unusedVariables false
set_option linter.unusedSimpArgs false

variable {w w' : World} {p : Pl} {M G : Int} {l : List S45} {t : Int} {b : Bool} {a : Int} {o ins : Bool} {win maj last : Int}
theorem start_at {i s : Int} (h : Raw w p M G l t b a o ins win maj last) (hF : Fit M l) {j : Int} (hS : startS M l j i = (s, 0)) : Calls Try.prog 27 #[.pointer (some ⟨p.gq, 0, none⟩), .int .i64 j, .int .i64 i] w fun e w' => e = .returned (.tuple #[.int .i64 s, .int .i64 0]) ∧ Below w.heap.size w w' := by
  have := SPlanCalls.start_calls p.gq M G l w j i h.2.2.2.1.now hF
  rw [hS] at this
  exact this
theorem window_at (n : Nat) (h : Raw w p M G l t b a o ins win maj last) (hn : n < l.length) : Calls Try.prog 28 #[.pointer (some ⟨p.gq, 0, none⟩), .int .i64 n] w fun e w' => e = .returned (.tuple #[.agg #[.int .i64 (rd_T45 l (n : Int)).f0, .int .i64 (rd_T45 l (n : Int)).f1, .int .i64 (rd_T45 l (n : Int)).f2], .int .i64 0]) ∧ Below w.heap.size w w' :=
  SPlanStart.window_in p.gq M G n l w ⟨h.2.2.2.1.now⟩ hn
theorem _root_.Go.Proofs.Ytagnlbpndldfeaa.SState.Raw.own4 (h : Raw w p M G l t b a o ins win maj last) (q : Int) : Raw ((((w.setCell ⟨p.gs, 4, none⟩ (.bool false)).setCell ⟨p.gs, 5, none⟩ (.int .i64 0)).setCell ⟨p.gs, 6, none⟩ (.int .i64 0)).setCell ⟨p.gs, 7, none⟩ (.int .i64 q)) p M G l t b a o false 0 0 q := by
  have hm : Moves w ((((w.setCell ⟨p.gs, 4, none⟩ (.bool false)).setCell ⟨p.gs, 5, none⟩ (.int .i64 0)).setCell ⟨p.gs, 6, none⟩ (.int .i64 0)).setCell ⟨p.gs, 7, none⟩ (.int .i64 q)) (fun k => k = p.gs) := by
    repeat (first | exact Moves.refl _ _ | refine Moves.set (S := fun k => k = p.gs) ?_ rfl _ _)
  refine ⟨?_, hm.blk h.2.1 (Ne.symm h.sc), hm.blk h.2.2.1 (Ne.symm h.sp), h.2.2.2.1.moves hm (fun k hk => .inr (by rw [hk]; exact h.2.2.2.2.1)), h.2.2.2.2⟩
  have := blk_set (blk_set (blk_set (blk_set h.1 4 (.bool false)) 5 (.int .i64 0)) 6 (.int .i64 0)) 7 (.int .i64 q)
  simpa [Own] using this
theorem leave_out (h : Raw w p M G l t b a o false win maj last) : Calls Try.prog 14 #[.pointer (some ⟨p.gs, 0, none⟩)] w fun e w' => e = .returned (.tuple #[.int .i64 0, .int .i64 8]) ∧ w' = w := by
  have c4 : w.cell? ⟨p.gs, 4, none⟩ = some (.bool false) := (blk_cell h.1 4).trans rfl
  clear h
  go_enter Try.func14, Try.ntmps14
  go_wp2_with fail
  go_ret2
  exact ⟨rfl, rfl⟩
set_option maxHeartbeats 3200000 in
set_option maxRecDepth 100000 in
theorem leave_in (n : Nat) (s y0 y1 y2 : Int) (h : Raw w p M G l t b a o true (n : Int) maj last) (hF : Aside0 (Fit M l)) (hn : Aside0 (n < l.length)) (hS : Aside0 (startS M l maj n = (s, 0)))
    (hy0 : Aside0 ((rd_T45 l (n : Int)).f0 = y0)) (hy1 : Aside0 ((rd_T45 l (n : Int)).f1 = y1)) (hy2 : Aside0 ((rd_T45 l (n : Int)).f2 = y2)) (q : Int) (hq : Aside0 (s + y2 = q))
    (e1 : wrap64 (s + y2) = q) (e2 : wrap64 (q - t) = q - t) (hA : Aside0 (0 ≤ t ∧ t ≤ q ∧ q ≤ 281474976710656)) :
    Calls Try.prog 14 #[.pointer (some ⟨p.gs, 0, none⟩)] w fun e w' => e = .returned (.tuple #[.int .i64 q, .int .i64 0]) ∧ Raw w' p M G l q false 0 false false 0 0 q ∧ Moves w w' (S3 p) := by
  have c4 : w.cell? ⟨p.gs, 4, none⟩ = some (.bool true) := (blk_cell h.1 4).trans rfl
  have c2 : w.cell? ⟨p.gs, 2, none⟩ = some (.pointer (some ⟨p.gq, 0, none⟩)) := (blk_cell h.1 2).trans rfl
  have c5 : w.cell? ⟨p.gs, 5, none⟩ = some (.int .i64 n) := (blk_cell h.1 5).trans rfl
  have c6 : w.cell? ⟨p.gs, 6, none⟩ = some (.int .i64 maj) := (blk_cell h.1 6).trans rfl
  have H := Aside0.mk h
  clear h
  go_enter Try.func14, Try.ntmps14
  go_wp2_with fail
  -- region 3
  have Hs0 := Aside0.mk (below_drew1 (Below.refl w.heap.size w))
  refine start_ (n := 20) (S := fun w' => Below w.heap.size w w') (ds := []) #[false, false, false, false, false, false, false, false, false, false, false, false, false, false, false, false, false, false, false, false] (by kernel_rfl) rfl rfl Hs0.out (fun hs => ?_)
  have Hs := Aside0.mk hs
  clear hs Hs0
  refine pure_ (i := 0) (N := some 18) (v := ?_) (a' := ?_) #[true, false, false, false, false, false, false, false, false, false, false, false, false, false, false, false, false, false, false, false] rfl rfl (by kernel_rfl) (fun _ _ _ h => h) (Or.inl ⟨by rfl, ?_⟩) ?_ ?_
  rotate_left
  · intro w'
    go_simp
    with_reducible rfl
  rotate_left
  · simp only [Act.put, List.setIfInBounds_toArray, List.set_cons_zero, List.set_cons_succ]
    rfl
  refine pure_ (i := 1) (N := some 19) (v := ?_) (a' := ?_) #[true, true, false, false, false, false, false, false, false, false, false, false, false, false, false, false, false, false, false, false] rfl rfl (by kernel_rfl) (fun _ _ _ h => h) (Or.inl ⟨by rfl, ?_⟩) ?_ ?_
  rotate_left
  · intro w'
    go_simp
    with_reducible rfl
  rotate_left
  · simp only [Act.put, List.setIfInBounds_toArray, List.set_cons_zero, List.set_cons_succ]
    rfl
  refine pure_ (i := 2) (N := some 20) (v := ?_) (a' := ?_) #[true, true, true, false, false, false, false, false, false, false, false, false, false, false, false, false, false, false, false, false] rfl rfl (by kernel_rfl) (fun _ _ _ h => h) (Or.inl ⟨by rfl, ?_⟩) ?_ ?_
  rotate_left
  · intro w'
    go_simp
    with_reducible rfl
  rotate_left
  · simp only [Act.put, List.setIfInBounds_toArray, List.set_cons_zero, List.set_cons_succ]
    rfl
  refine take_ (i := 3) (N := some 21) (v := .pointer (some ⟨p.gq, 0, none⟩)) #[true, true, true, true, false, false, false, false, false, false, false, false, false, false, false, false, false, false, false, false] rfl rfl (by kernel_rfl) (fun _ _ _ h => h) (Or.inl ⟨by rfl, ?_⟩) ?_ (a' := ?_) ?_ ?_
  · intro w' hS
    have hx : w'.cell? ⟨p.gs, 2, none⟩ = some (.pointer (some ⟨p.gq, 0, none⟩)) := (hS.cell (p := ⟨p.gs, 2, none⟩) (blk_lt H.out.1)).trans ((blk_cell H.out.1 2).trans rfl)
    go_simp
  · exact Hs.out
  rotate_left
  · simp only [Act.put, List.setIfInBounds_toArray, List.set_cons_zero, List.set_cons_succ]
    rfl
  refine pure_ (i := 4) (N := some 22) (v := ?_) (a' := ?_) #[true, true, true, true, true, false, false, false, false, false, false, false, false, false, false, false, false, false, false, false] rfl rfl (by kernel_rfl) (fun _ _ _ h => h) (Or.inl ⟨by rfl, ?_⟩) ?_ ?_
  rotate_left
  · intro w'
    go_simp
    with_reducible rfl
  rotate_left
  · simp only [Act.put, List.setIfInBounds_toArray, List.set_cons_zero, List.set_cons_succ]
    rfl
  refine pure_ (i := 5) (N := some 23) (v := ?_) (a' := ?_) #[true, true, true, true, true, true, false, false, false, false, false, false, false, false, false, false, false, false, false, false] rfl rfl (by kernel_rfl) (fun _ _ _ h => h) (Or.inl ⟨by rfl, ?_⟩) ?_ ?_
  rotate_left
  · intro w'
    go_simp
    with_reducible rfl
  rotate_left
  · simp only [Act.put, List.setIfInBounds_toArray, List.set_cons_zero, List.set_cons_succ]
    rfl
  refine pure_ (i := 6) (N := some 24) (v := ?_) (a' := ?_) #[true, true, true, true, true, true, true, false, false, false, false, false, false, false, false, false, false, false, false, false] rfl rfl (by kernel_rfl) (fun _ _ _ h => h) (Or.inl ⟨by rfl, ?_⟩) ?_ ?_
  rotate_left
  · intro w'
    go_simp
    with_reducible rfl
  rotate_left
  · simp only [Act.put, List.setIfInBounds_toArray, List.set_cons_zero, List.set_cons_succ]
    rfl
  refine pure_ (i := 7) (N := some 25) (v := ?_) (a' := ?_) #[true, true, true, true, true, true, true, true, false, false, false, false, false, false, false, false, false, false, false, false] rfl rfl (by kernel_rfl) (fun _ _ _ h => h) (Or.inl ⟨by rfl, ?_⟩) ?_ ?_
  rotate_left
  · intro w'
    go_simp
    with_reducible rfl
  rotate_left
  · simp only [Act.put, List.setIfInBounds_toArray, List.set_cons_zero, List.set_cons_succ]
    rfl
  refine take_ (i := 8) (N := some 26) (v := .int .i64 maj) #[true, true, true, true, true, true, true, true, true, false, false, false, false, false, false, false, false, false, false, false] rfl rfl (by kernel_rfl) (fun _ _ _ h => h) (Or.inl ⟨by rfl, ?_⟩) ?_ (a' := ?_) ?_ ?_
  · intro w' hS
    have hx : w'.cell? ⟨p.gs, 6, none⟩ = some (.int .i64 maj) := (hS.cell (p := ⟨p.gs, 6, none⟩) (blk_lt H.out.1)).trans ((blk_cell H.out.1 6).trans rfl)
    go_simp
  · exact Hs.out
  rotate_left
  · simp only [Act.put, List.setIfInBounds_toArray, List.set_cons_zero, List.set_cons_succ]
    rfl
  refine pure_ (i := 9) (N := some 27) (v := ?_) (a' := ?_) #[true, true, true, true, true, true, true, true, true, true, false, false, false, false, false, false, false, false, false, false] rfl rfl (by kernel_rfl) (fun _ _ _ h => h) (Or.inl ⟨by rfl, ?_⟩) ?_ ?_
  rotate_left
  · intro w'
    go_simp
    with_reducible rfl
  rotate_left
  · simp only [Act.put, List.setIfInBounds_toArray, List.set_cons_zero, List.set_cons_succ]
    rfl
  refine pure_ (i := 10) (N := some 28) (v := ?_) (a' := ?_) #[true, true, true, true, true, true, true, true, true, true, true, false, false, false, false, false, false, false, false, false] rfl rfl (by kernel_rfl) (fun _ _ _ h => h) (Or.inl ⟨by rfl, ?_⟩) ?_ ?_
  rotate_left
  · intro w'
    go_simp
    with_reducible rfl
  rotate_left
  · simp only [Act.put, List.setIfInBounds_toArray, List.set_cons_zero, List.set_cons_succ]
    rfl
  refine pure_ (i := 11) (N := some 29) (v := ?_) (a' := ?_) #[true, true, true, true, true, true, true, true, true, true, true, true, false, false, false, false, false, false, false, false] rfl rfl (by kernel_rfl) (fun _ _ _ h => h) (Or.inl ⟨by rfl, ?_⟩) ?_ ?_
  rotate_left
  · intro w'
    go_simp
    with_reducible rfl
  rotate_left
  · simp only [Act.put, List.setIfInBounds_toArray, List.set_cons_zero, List.set_cons_succ]
    rfl
  refine pure_ (i := 12) (N := some 30) (v := ?_) (a' := ?_) #[true, true, true, true, true, true, true, true, true, true, true, true, true, false, false, false, false, false, false, false] rfl rfl (by kernel_rfl) (fun _ _ _ h => h) (Or.inl ⟨by rfl, ?_⟩) ?_ ?_
  rotate_left
  · intro w'
    go_simp
    with_reducible rfl
  rotate_left
  · simp only [Act.put, List.setIfInBounds_toArray, List.set_cons_zero, List.set_cons_succ]
    rfl
  refine take_ (i := 13) (N := some 31) (v := .int .i64 n) #[true, true, true, true, true, true, true, true, true, true, true, true, true, true, false, false, false, false, false, false] rfl rfl (by kernel_rfl) (fun _ _ _ h => h) (Or.inl ⟨by rfl, ?_⟩) ?_ (a' := ?_) ?_ ?_
  · intro w' hS
    have hx : w'.cell? ⟨p.gs, 5, none⟩ = some (.int .i64 n) := (hS.cell (p := ⟨p.gs, 5, none⟩) (blk_lt H.out.1)).trans ((blk_cell H.out.1 5).trans rfl)
    go_simp
  · exact Hs.out
  rotate_left
  · simp only [Act.put, List.setIfInBounds_toArray, List.set_cons_zero, List.set_cons_succ]
    rfl
  refine one_ (i := 14) (N := some 32) #[true, true, true, true, true, true, true, true, true, true, true, true, true, true, true, false, false, false, false, false] rfl rfl (by kernel_rfl) (by decide) (fun K hK => ?_)
  refine call_ 27 _ (by rfl) rfl (by go_simp; rfl) ?_
  refine (start_at (H.out.below Hs.out) hF.out hS.out).mono ?_
  rintro e wn ⟨rfl, hB⟩
  refine ⟨_, rfl, ?_⟩
  refine hK.out _ _ (below_step Hs.out hB) (fun hs => ?_)
  clear hK K hB Hs
  have Hs := Aside0.mk hs
  clear hs
  refine norm_ (a' := ?_) ?_ ?_
  rotate_left
  · show Act.put _ (some 32) _ = _
    simp only [Act.put, List.setIfInBounds_toArray, List.set_cons_zero, List.set_cons_succ]
    rfl
  refine pure_ (i := 15) (N := some 17) (v := ?_) (a' := ?_) #[true, true, true, true, true, true, true, true, true, true, true, true, true, true, true, true, false, false, false, false] rfl rfl (by kernel_rfl) (fun _ _ _ h => h) (Or.inl ⟨by rfl, ?_⟩) ?_ ?_
  rotate_left
  · intro w'
    go_simp
    with_reducible rfl
  rotate_left
  · simp only [Act.put, List.setIfInBounds_toArray, List.set_cons_zero, List.set_cons_succ]
    rfl
  refine pure_ (i := 16) (N := some 33) (v := ?_) (a' := ?_) #[true, true, true, true, true, true, true, true, true, true, true, true, true, true, true, true, true, false, false, false] rfl rfl (by kernel_rfl) (fun _ _ _ h => h) (Or.inl ⟨by rfl, ?_⟩) ?_ ?_
  rotate_left
  · intro w'
    go_simp
    with_reducible rfl
  rotate_left
  · simp only [Act.put, List.setIfInBounds_toArray, List.set_cons_zero, List.set_cons_succ]
    rfl
  refine pure_ (i := 17) (N := some 34) (v := ?_) (a' := ?_) #[true, true, true, true, true, true, true, true, true, true, true, true, true, true, true, true, true, true, false, false] rfl rfl (by kernel_rfl) (fun _ _ _ h => h) (Or.inl ⟨by rfl, ?_⟩) ?_ ?_
  rotate_left
  · intro w'
    go_simp
    with_reducible rfl
  rotate_left
  · simp only [Act.put, List.setIfInBounds_toArray, List.set_cons_zero, List.set_cons_succ]
    rfl
  refine pure_ (i := 18) (N := some 4) (v := ?_) (a' := ?_) #[true, true, true, true, true, true, true, true, true, true, true, true, true, true, true, true, true, true, true, false] rfl rfl (by kernel_rfl) (fun _ _ _ h => h) (Or.inl ⟨by rfl, ?_⟩) ?_ ?_
  rotate_left
  · intro w'
    go_simp
    with_reducible rfl
  rotate_left
  · simp only [Act.put, List.setIfInBounds_toArray, List.set_cons_zero, List.set_cons_succ]
    rfl
  refine pure_ (i := 19) (N := some 5) (v := ?_) (a' := ?_) #[true, true, true, true, true, true, true, true, true, true, true, true, true, true, true, true, true, true, true, true] rfl rfl (by kernel_rfl) (fun _ _ _ h => h) (Or.inl ⟨by rfl, ?_⟩) ?_ ?_
  rotate_left
  · intro w'
    go_simp
    with_reducible rfl
  rotate_left
  · simp only [Act.put, List.setIfInBounds_toArray, List.set_cons_zero, List.set_cons_succ]
    rfl
  refine done_ (by kernel_rfl) ?_
  have H3 := Aside0.mk (H.out.below Hs.out)
  have HB3 := Hs
  generalize wn = w3 at *
  clear Hs c4 c2 c5 c6
  go_wp2_with fail
  go_cut [6, 7] (fun s6 s7 wx => ∃ g : Nat, s6 = .pointer (some ⟨g, 0, none⟩) ∧ s7 = .int .i64 0 ∧ Aside0 (wx.heap[g]? = some (.cells #[.int .i64 y0, .int .i64 y1, .int .i64 y2] 45 (0, 0))) ∧ Aside0 (Below w3.heap.size w3 wx) ∧ Aside0 (w3.heap.size ≤ g))
  case first =>
    have Hs0 := Aside0.mk (below_drew1 (Below.refl w3.heap.size w3))
    refine start_ (n := 16) (S := fun w' => Below w3.heap.size w3 w') (ds := []) #[false, false, false, false, false, false, false, false, false, false, false, false, false, false, false, false] (by kernel_rfl) rfl rfl Hs0.out (fun hs => ?_)
    have Hs := Aside0.mk hs
    clear hs Hs0
    refine pure_ (i := 0) (N := some 36) (v := ?_) (a' := ?_) #[true, false, false, false, false, false, false, false, false, false, false, false, false, false, false, false] rfl rfl (by kernel_rfl) (fun _ _ _ h => h) (Or.inl ⟨by rfl, ?_⟩) ?_ ?_
    rotate_left
    · intro w'
      go_simp
      with_reducible rfl
    rotate_left
    · simp only [Act.put, List.setIfInBounds_toArray, List.set_cons_zero, List.set_cons_succ]
      rfl
    refine pure_ (i := 1) (N := some 37) (v := ?_) (a' := ?_) #[true, true, false, false, false, false, false, false, false, false, false, false, false, false, false, false] rfl rfl (by kernel_rfl) (fun _ _ _ h => h) (Or.inl ⟨by rfl, ?_⟩) ?_ ?_
    rotate_left
    · intro w'
      go_simp
      with_reducible rfl
    rotate_left
    · simp only [Act.put, List.setIfInBounds_toArray, List.set_cons_zero, List.set_cons_succ]
      rfl
    refine pure_ (i := 2) (N := some 38) (v := ?_) (a' := ?_) #[true, true, true, false, false, false, false, false, false, false, false, false, false, false, false, false] rfl rfl (by kernel_rfl) (fun _ _ _ h => h) (Or.inl ⟨by rfl, ?_⟩) ?_ ?_
    rotate_left
    · intro w'
      go_simp
      with_reducible rfl
    rotate_left
    · simp only [Act.put, List.setIfInBounds_toArray, List.set_cons_zero, List.set_cons_succ]
      rfl
    refine take_ (i := 3) (N := some 39) (v := .pointer (some ⟨p.gq, 0, none⟩)) #[true, true, true, true, false, false, false, false, false, false, false, false, false, false, false, false] rfl rfl (by kernel_rfl) (fun _ _ _ h => h) (Or.inl ⟨by rfl, ?_⟩) ?_ (a' := ?_) ?_ ?_
    · intro w' hS
      have hx : w'.cell? ⟨p.gs, 2, none⟩ = some (.pointer (some ⟨p.gq, 0, none⟩)) := (hS.cell (p := ⟨p.gs, 2, none⟩) (blk_lt H3.out.1)).trans ((blk_cell H3.out.1 2).trans rfl)
      go_simp
    · exact Hs.out
    rotate_left
    · simp only [Act.put, List.setIfInBounds_toArray, List.set_cons_zero, List.set_cons_succ]
      rfl
    refine pure_ (i := 4) (N := some 40) (v := ?_) (a' := ?_) #[true, true, true, true, true, false, false, false, false, false, false, false, false, false, false, false] rfl rfl (by kernel_rfl) (fun _ _ _ h => h) (Or.inl ⟨by rfl, ?_⟩) ?_ ?_
    rotate_left
    · intro w'
      go_simp
      with_reducible rfl
    rotate_left
    · simp only [Act.put, List.setIfInBounds_toArray, List.set_cons_zero, List.set_cons_succ]
      rfl
    refine pure_ (i := 5) (N := some 41) (v := ?_) (a' := ?_) #[true, true, true, true, true, true, false, false, false, false, false, false, false, false, false, false] rfl rfl (by kernel_rfl) (fun _ _ _ h => h) (Or.inl ⟨by rfl, ?_⟩) ?_ ?_
    rotate_left
    · intro w'
      go_simp
      with_reducible rfl
    rotate_left
    · simp only [Act.put, List.setIfInBounds_toArray, List.set_cons_zero, List.set_cons_succ]
      rfl
    refine pure_ (i := 6) (N := some 42) (v := ?_) (a' := ?_) #[true, true, true, true, true, true, true, false, false, false, false, false, false, false, false, false] rfl rfl (by kernel_rfl) (fun _ _ _ h => h) (Or.inl ⟨by rfl, ?_⟩) ?_ ?_
    rotate_left
    · intro w'
      go_simp
      with_reducible rfl
    rotate_left
    · simp only [Act.put, List.setIfInBounds_toArray, List.set_cons_zero, List.set_cons_succ]
      rfl
    refine pure_ (i := 7) (N := some 43) (v := ?_) (a' := ?_) #[true, true, true, true, true, true, true, true, false, false, false, false, false, false, false, false] rfl rfl (by kernel_rfl) (fun _ _ _ h => h) (Or.inl ⟨by rfl, ?_⟩) ?_ ?_
    rotate_left
    · intro w'
      go_simp
      with_reducible rfl
    rotate_left
    · simp only [Act.put, List.setIfInBounds_toArray, List.set_cons_zero, List.set_cons_succ]
      rfl
    refine take_ (i := 8) (N := some 44) (v := .int .i64 n) #[true, true, true, true, true, true, true, true, true, false, false, false, false, false, false, false] rfl rfl (by kernel_rfl) (fun _ _ _ h => h) (Or.inl ⟨by rfl, ?_⟩) ?_ (a' := ?_) ?_ ?_
    · intro w' hS
      have hx : w'.cell? ⟨p.gs, 5, none⟩ = some (.int .i64 n) := (hS.cell (p := ⟨p.gs, 5, none⟩) (blk_lt H3.out.1)).trans ((blk_cell H3.out.1 5).trans rfl)
      go_simp
    · exact Hs.out
    rotate_left
    · simp only [Act.put, List.setIfInBounds_toArray, List.set_cons_zero, List.set_cons_succ]
      rfl
    have hS := Hs.out
    generalize w3.drew = wZ at *
    clear hS
    refine two_ (i := 9) (j := 13) (Ni := some 45) (Nj := some 6) #[true, true, true, true, true, true, true, true, true, true, false, false, false, false, false, false] #[true, true, true, true, true, true, true, true, true, false, false, false, false, true, false, false] rfl rfl rfl rfl (by kernel_rfl) (by decide) (by decide) (fun K hK => ?_) (fun K hK => ?_)
    · skip
      refine call_ 28 _ (by rfl) rfl (by go_simp; rfl) ?_
      refine (window_at n (H3.out.below Hs.out) hn.out).mono ?_
      rw [hy0.out, hy1.out, hy2.out]
      rintro e wn ⟨rfl, hB⟩
      refine ⟨_, rfl, ?_⟩
      refine hK.out _ _ (below_step Hs.out hB) (fun hs => ?_)
      clear hK K hB Hs
      have Hs := Aside0.mk hs
      clear hs
      refine norm_ (a' := ?_) ?_ ?_
      rotate_left
      · show Act.put _ (some 45) _ = _
        simp only [Act.put, List.setIfInBounds_toArray, List.set_cons_zero, List.set_cons_succ]
        rfl
      refine pure_ (i := 10) (N := some 35) (v := ?_) (a' := ?_) #[true, true, true, true, true, true, true, true, true, true, true, false, false, false, false, false] rfl rfl (by kernel_rfl) (fun _ _ _ h => h) (Or.inl ⟨by rfl, ?_⟩) ?_ ?_
      rotate_left
      · intro w'
        go_simp
        with_reducible rfl
      rotate_left
      · simp only [Act.put, List.setIfInBounds_toArray, List.set_cons_zero, List.set_cons_succ]
        rfl
      refine pure_ (i := 11) (N := some 46) (v := ?_) (a' := ?_) #[true, true, true, true, true, true, true, true, true, true, true, true, false, false, false, false] rfl rfl (by kernel_rfl) (fun _ _ _ h => h) (Or.inl ⟨by rfl, ?_⟩) ?_ ?_
      rotate_left
      · intro w'
        go_simp
        with_reducible rfl
      rotate_left
      · simp only [Act.put, List.setIfInBounds_toArray, List.set_cons_zero, List.set_cons_succ]
        rfl
      refine pure_ (i := 12) (N := some 47) (v := ?_) (a' := ?_) #[true, true, true, true, true, true, true, true, true, true, true, true, true, false, false, false] rfl rfl (by kernel_rfl) (fun _ _ _ h => h) (Or.inl ⟨by rfl, ?_⟩) ?_ ?_
      rotate_left
      · intro w'
        go_simp
        with_reducible rfl
      rotate_left
      · simp only [Act.put, List.setIfInBounds_toArray, List.set_cons_zero, List.set_cons_succ]
        rfl
      refine one_ (i := 13) (N := some 6) #[true, true, true, true, true, true, true, true, true, true, true, true, true, true, false, false] rfl rfl (by kernel_rfl) (by decide) (fun K hK => ?_)
      refine value_ (by rfl) rfl (by go_simp; exact ⟨rfl, rfl⟩) ?_
      have HG : Aside0 ((wn.alloc (.cells #[.int .i64 0, .int .i64 0, .int .i64 0] 45)).heap[wn.heap.size]? = some (.cells #[.int .i64 0, .int .i64 0, .int .i64 0] 45 (0, 0))) := ⟨blk_new _ _⟩
      have HGE : Aside0 (w3.heap.size ≤ wn.heap.size) := ⟨Hs.out.size⟩
      refine hK.out _ _ (below_alloc Hs.out _) (fun hs => ?_)
      clear hK K Hs
      have Hs := Aside0.mk hs
      clear hs
      refine norm_ (a' := ?_) ?_ ?_
      rotate_left
      · show Act.put _ (some 6) _ = _
        simp only [Act.put, List.setIfInBounds_toArray, List.set_cons_zero, List.set_cons_succ]
        rfl
      generalize wn.heap.size = g at *
      generalize wn.alloc (.cells #[.int .i64 0, .int .i64 0, .int .i64 0] 45) = wa at *
      have z0 := (blk_cell HG.out 0).trans (show _ = some (Value.int IntKind.i64 0) from rfl)
      have z1 := (blk_cell HG.out 1).trans (show _ = some (Value.int IntKind.i64 0) from rfl)
      have z2 := (blk_cell HG.out 2).trans (show _ = some (Value.int IntKind.i64 0) from rfl)
      have f0 := blk_frozen HG.out 0
      have f1 := blk_frozen HG.out 1
      have f2 := blk_frozen HG.out 2
      refine one_ (i := 14) (N := none) #[true, true, true, true, true, true, true, true, true, true, true, true, true, true, true, false] rfl rfl (by kernel_rfl) (by decide) (fun K hK => ?_)
      refine skip_ (by rfl) rfl (by go_simp; rfl) ?_
      have HG2 := Aside0.mk (blk_set (blk_set (blk_set HG.out 0 (.int .i64 y0)) 1 (.int .i64 y1)) 2 (.int .i64 y2))
      refine hK.out _ _ (below_set (below_set (below_set Hs.out HGE.out) HGE.out) HGE.out) (fun hs => ?_)
      clear hK K Hs z0 z1 z2 f0 f1 f2 HG
      have Hs := Aside0.mk hs
      clear hs
      refine pure_ (i := 15) (N := some 7) (v := ?_) (a' := ?_) #[true, true, true, true, true, true, true, true, true, true, true, true, true, true, true, true] rfl rfl (by kernel_rfl) (fun _ _ _ h => h) (Or.inl ⟨by rfl, ?_⟩) ?_ ?_
      rotate_left
      · intro w'
        go_simp
        with_reducible rfl
      rotate_left
      · simp only [Act.put, List.setIfInBounds_toArray, List.set_cons_zero, List.set_cons_succ]
        rfl
      refine done_ (by kernel_rfl) ?_
      go_wp2_with fail
      go_meet
      exact ⟨g, rfl, rfl, HG2, Hs, HGE⟩
    · skip
      refine value_ (by rfl) rfl (by go_simp; exact ⟨rfl, rfl⟩) ?_
      have HG : Aside0 ((wZ.alloc (.cells #[.int .i64 0, .int .i64 0, .int .i64 0] 45)).heap[wZ.heap.size]? = some (.cells #[.int .i64 0, .int .i64 0, .int .i64 0] 45 (0, 0))) := ⟨blk_new _ _⟩
      have HGE : Aside0 (w3.heap.size ≤ wZ.heap.size) := ⟨Hs.out.size⟩
      refine hK.out _ _ (below_alloc Hs.out _) (fun hs => ?_)
      clear hK K Hs
      have Hs := Aside0.mk hs
      clear hs
      refine norm_ (a' := ?_) ?_ ?_
      rotate_left
      · show Act.put _ (some 6) _ = _
        simp only [Act.put, List.setIfInBounds_toArray, List.set_cons_zero, List.set_cons_succ]
        rfl
      generalize wZ.heap.size = g at *
      generalize wZ.alloc (.cells #[.int .i64 0, .int .i64 0, .int .i64 0] 45) = wa at *
      refine one_ (i := 9) (N := some 45) #[true, true, true, true, true, true, true, true, true, true, false, false, false, true, false, false] rfl rfl (by kernel_rfl) (by decide) (fun K hK => ?_)
      refine call_ 28 _ (by rfl) rfl (by go_simp; rfl) ?_
      refine (window_at n (H3.out.below Hs.out) hn.out).mono ?_
      rw [hy0.out, hy1.out, hy2.out]
      rintro e wn ⟨rfl, hB⟩
      refine ⟨_, rfl, ?_⟩
      have HG := Aside0.mk ((hB.block _ (blk_lt HG.out)).trans HG.out)
      refine hK.out _ _ (below_step Hs.out hB) (fun hs => ?_)
      clear hK K hB Hs
      have Hs := Aside0.mk hs
      clear hs
      refine norm_ (a' := ?_) ?_ ?_
      rotate_left
      · show Act.put _ (some 45) _ = _
        simp only [Act.put, List.setIfInBounds_toArray, List.set_cons_zero, List.set_cons_succ]
        rfl
      refine pure_ (i := 10) (N := some 35) (v := ?_) (a' := ?_) #[true, true, true, true, true, true, true, true, true, true, true, false, false, true, false, false] rfl rfl (by kernel_rfl) (fun _ _ _ h => h) (Or.inl ⟨by rfl, ?_⟩) ?_ ?_
      rotate_left
      · intro w'
        go_simp
        with_reducible rfl
      rotate_left
      · simp only [Act.put, List.setIfInBounds_toArray, List.set_cons_zero, List.set_cons_succ]
        rfl
      refine pure_ (i := 11) (N := some 46) (v := ?_) (a' := ?_) #[true, true, true, true, true, true, true, true, true, true, true, true, false, true, false, false] rfl rfl (by kernel_rfl) (fun _ _ _ h => h) (Or.inl ⟨by rfl, ?_⟩) ?_ ?_
      rotate_left
      · intro w'
        go_simp
        with_reducible rfl
      rotate_left
      · simp only [Act.put, List.setIfInBounds_toArray, List.set_cons_zero, List.set_cons_succ]
        rfl
      refine pure_ (i := 12) (N := some 47) (v := ?_) (a' := ?_) #[true, true, true, true, true, true, true, true, true, true, true, true, true, true, false, false] rfl rfl (by kernel_rfl) (fun _ _ _ h => h) (Or.inl ⟨by rfl, ?_⟩) ?_ ?_
      rotate_left
      · intro w'
        go_simp
        with_reducible rfl
      rotate_left
      · simp only [Act.put, List.setIfInBounds_toArray, List.set_cons_zero, List.set_cons_succ]
        rfl
      have z0 := (blk_cell HG.out 0).trans (show _ = some (Value.int IntKind.i64 0) from rfl)
      have z1 := (blk_cell HG.out 1).trans (show _ = some (Value.int IntKind.i64 0) from rfl)
      have z2 := (blk_cell HG.out 2).trans (show _ = some (Value.int IntKind.i64 0) from rfl)
      have f0 := blk_frozen HG.out 0
      have f1 := blk_frozen HG.out 1
      have f2 := blk_frozen HG.out 2
      refine one_ (i := 14) (N := none) #[true, true, true, true, true, true, true, true, true, true, true, true, true, true, true, false] rfl rfl (by kernel_rfl) (by decide) (fun K hK => ?_)
      refine skip_ (by rfl) rfl (by go_simp; rfl) ?_
      have HG2 := Aside0.mk (blk_set (blk_set (blk_set HG.out 0 (.int .i64 y0)) 1 (.int .i64 y1)) 2 (.int .i64 y2))
      refine hK.out _ _ (below_set (below_set (below_set Hs.out HGE.out) HGE.out) HGE.out) (fun hs => ?_)
      clear hK K Hs z0 z1 z2 f0 f1 f2 HG
      have Hs := Aside0.mk hs
      clear hs
      refine pure_ (i := 15) (N := some 7) (v := ?_) (a' := ?_) #[true, true, true, true, true, true, true, true, true, true, true, true, true, true, true, true] rfl rfl (by kernel_rfl) (fun _ _ _ h => h) (Or.inl ⟨by rfl, ?_⟩) ?_ ?_
      rotate_left
      · intro w'
        go_simp
        with_reducible rfl
      rotate_left
      · simp only [Act.put, List.setIfInBounds_toArray, List.set_cons_zero, List.set_cons_succ]
        rfl
      refine done_ (by kernel_rfl) ?_
      go_wp2_with fail
      go_meet
      exact ⟨g, rfl, rfl, HG2, Hs, HGE⟩
  case rest =>
    obtain ⟨g, rfl, rfl, HG, HB4, HGE⟩ := hcut
    have H4 := Aside0.mk (H3.out.below HB4.out)
    have HM4 : Aside0 (Moves w wc (S3 p)) := ⟨Moves.of_below (below_step HB3.out HB4.out) _⟩
    have g2 := (blk_cell HG.out 2).trans (show _ = some (Value.int IntKind.i64 y2) from rfl)
    generalize wc = w4 at *
    clear HB3 HB4 H3 HGE
    go_wp2_with fail
    rw [e1]
    have e3 : IntKind.i64.wrap (q - t) = q - t := (i64_w _).trans e2
    clear g2
    have Hs0 := Aside0.mk (below_drew1 (Below.refl w4.heap.size w4))
    refine start_ (n := 12) (S := fun w' => Below w4.heap.size w4 w') (ds := [11]) #[false, false, false, false, false, false, false, false, false, false, false, false] (by kernel_rfl) rfl rfl Hs0.out (fun hs => ?_)
    have Hs := Aside0.mk hs
    clear hs Hs0
    refine pure_ (i := 0) (N := some 52) (v := ?_) (a' := ?_) #[true, false, false, false, false, false, false, false, false, false, false, false] rfl rfl (by kernel_rfl) (fun _ _ _ h => h) (Or.inl ⟨by rfl, ?_⟩) ?_ ?_
    rotate_left
    · intro w'
      (try rw [e2]); go_simp
      with_reducible rfl
    rotate_left
    · simp only [Act.put, List.setIfInBounds_toArray, List.set_cons_zero, List.set_cons_succ]
      rfl
    refine pure_ (i := 1) (N := some 53) (v := ?_) (a' := ?_) #[true, true, false, false, false, false, false, false, false, false, false, false] rfl rfl (by kernel_rfl) (fun _ _ _ h => h) (Or.inl ⟨by rfl, ?_⟩) ?_ ?_
    rotate_left
    · intro w'
      (try rw [e2]); go_simp
      with_reducible rfl
    rotate_left
    · simp only [Act.put, List.setIfInBounds_toArray, List.set_cons_zero, List.set_cons_succ]
      rfl
    refine pure_ (i := 2) (N := some 54) (v := ?_) (a' := ?_) #[true, true, true, false, false, false, false, false, false, false, false, false] rfl rfl (by kernel_rfl) (fun _ _ _ h => h) (Or.inl ⟨by rfl, ?_⟩) ?_ ?_
    rotate_left
    · intro w'
      (try rw [e2]); go_simp
      with_reducible rfl
    rotate_left
    · simp only [Act.put, List.setIfInBounds_toArray, List.set_cons_zero, List.set_cons_succ]
      rfl
    refine take_ (i := 3) (N := some 55) (v := .pointer (some ⟨p.gc, 0, none⟩)) #[true, true, true, true, false, false, false, false, false, false, false, false] rfl rfl (by kernel_rfl) (fun _ _ _ h => h) (Or.inl ⟨by rfl, ?_⟩) ?_ (a' := ?_) ?_ ?_
    · intro w' hS
      have hx : w'.cell? ⟨p.gs, 0, none⟩ = some (.pointer (some ⟨p.gc, 0, none⟩)) := (hS.cell (p := ⟨p.gs, 0, none⟩) (blk_lt H4.out.1)).trans ((blk_cell H4.out.1 0).trans rfl)
      go_simp
    · exact Hs.out
    rotate_left
    · simp only [Act.put, List.setIfInBounds_toArray, List.set_cons_zero, List.set_cons_succ]
      rfl
    refine pure_ (i := 4) (N := some 56) (v := ?_) (a' := ?_) #[true, true, true, true, true, false, false, false, false, false, false, false] rfl rfl (by kernel_rfl) (fun _ _ _ h => h) (Or.inl ⟨by rfl, ?_⟩) ?_ ?_
    rotate_left
    · intro w'
      (try rw [e2]); go_simp
      with_reducible rfl
    rotate_left
    · simp only [Act.put, List.setIfInBounds_toArray, List.set_cons_zero, List.set_cons_succ]
      rfl
    refine pure_ (i := 5) (N := some 57) (v := ?_) (a' := ?_) #[true, true, true, true, true, true, false, false, false, false, false, false] rfl rfl (by kernel_rfl) (fun _ _ _ h => h) (Or.inl ⟨by rfl, ?_⟩) ?_ ?_
    rotate_left
    · intro w'
      (try rw [e2]); go_simp
      with_reducible rfl
    rotate_left
    · simp only [Act.put, List.setIfInBounds_toArray, List.set_cons_zero, List.set_cons_succ]
      rfl
    refine pure_ (i := 6) (N := some 58) (v := ?_) (a' := ?_) #[true, true, true, true, true, true, true, false, false, false, false, false] rfl rfl (by kernel_rfl) (fun _ _ _ h => h) (Or.inl ⟨by rfl, ?_⟩) ?_ ?_
    rotate_left
    · intro w'
      (try rw [e2]); go_simp
      with_reducible rfl
    rotate_left
    · simp only [Act.put, List.setIfInBounds_toArray, List.set_cons_zero, List.set_cons_succ]
      rfl
    refine pure_ (i := 7) (N := some 59) (v := ?_) (a' := ?_) #[true, true, true, true, true, true, true, true, false, false, false, false] rfl rfl (by kernel_rfl) (fun _ _ _ h => h) (Or.inl ⟨by rfl, ?_⟩) ?_ ?_
    rotate_left
    · intro w'
      (try rw [e2]); go_simp
      with_reducible rfl
    rotate_left
    · simp only [Act.put, List.setIfInBounds_toArray, List.set_cons_zero, List.set_cons_succ]
      rfl
    refine take_ (i := 8) (N := some 60) (v := .pointer (some ⟨p.gc, 0, none⟩)) #[true, true, true, true, true, true, true, true, true, false, false, false] rfl rfl (by kernel_rfl) (fun _ _ _ h => h) (Or.inl ⟨by rfl, ?_⟩) ?_ (a' := ?_) ?_ ?_
    · intro w' hS
      have hx : w'.cell? ⟨p.gs, 0, none⟩ = some (.pointer (some ⟨p.gc, 0, none⟩)) := (hS.cell (p := ⟨p.gs, 0, none⟩) (blk_lt H4.out.1)).trans ((blk_cell H4.out.1 0).trans rfl)
      go_simp
    · exact Hs.out
    rotate_left
    · simp only [Act.put, List.setIfInBounds_toArray, List.set_cons_zero, List.set_cons_succ]
      rfl
    refine one_ (i := 9) (N := some 61) #[true, true, true, true, true, true, true, true, true, true, false, false] rfl rfl (by kernel_rfl) (by decide) (fun K hK => ?_)
    refine call_ 10 _ (by rfl) rfl (by go_simp; rfl) ?_
    refine (now_calls _ _ _ _ _ (H4.out.below Hs.out).2.1).mono ?_
    rintro e wn ⟨rfl, rfl⟩
    refine ⟨_, rfl, ?_⟩
    refine hK.out _ _ Hs.out (fun hs => ?_)
    clear hK K Hs
    have Hs := Aside0.mk hs
    clear hs
    refine norm_ (a' := ?_) ?_ ?_
    rotate_left
    · show Act.put _ (some 61) _ = _
      simp only [Act.put, List.setIfInBounds_toArray, List.set_cons_zero, List.set_cons_succ]
      rfl
    refine pure_ (i := 10) (N := some 62) (v := ?_) (a' := ?_) #[true, true, true, true, true, true, true, true, true, true, true, false] rfl rfl (by kernel_rfl) (fun _ _ _ h => h) (Or.inl ⟨by rfl, ?_⟩) ?_ ?_
    rotate_left
    · intro w'
      (try rw [e2]); go_simp
      with_reducible rfl
    rotate_left
    · simp only [Act.put, List.setIfInBounds_toArray, List.set_cons_zero, List.set_cons_succ]
      rfl
    refine last_ (i := 11) (N := some 63) #[true, true, true, true, true, true, true, true, true, true, true, true] rfl rfl (by kernel_rfl) (by decide) (fun K hK => ?_)
    refine call_ 29 _ (by rfl) rfl (by go_simp; rfl) ?_
    refine (advance_calls _ _ _ _ _ _ (H4.out.below Hs.out).2.1 hA.out.1 (by have := hA.out; omega) (by have := hA.out; omega) (by have := hA.out; omega)).mono ?_
    rintro e w5 ⟨rfl, hc, hm⟩; have H5 := Aside0.mk ((H4.out.below Hs.out).clk hm hc); have HM5 := Aside0.mk (Moves.step (Moves.step HM4.out (Moves.of_below Hs.out _)) (m_c hm)); clear hc hm
    refine ⟨_, rfl, ?_⟩
    refine hK.out _ _ ?_
    clear hK K Hs
    refine norm_ (a' := ?_) ?_ ?_
    rotate_left
    · show Act.put _ (some 63) _ = _
      simp only [Act.put, List.setIfInBounds_toArray, List.set_cons_zero, List.set_cons_succ]
      rfl
    refine done_ (by kernel_rfl) ?_
    rw [show t + (q - t) = q by omega] at H5
    clear e1 e2 e3 H4 HM4
    have c0 : w5.cell? ⟨p.gs, 0, none⟩ = some (.pointer (some ⟨p.gc, 0, none⟩)) := (blk_cell H5.out.1 0).trans rfl
    go_wp2_with fail
    refine (disarm_calls _ _ _ _ _ H5.out.2.1).mono ?_
    rintro e w6 ⟨rfl, hc, hm⟩
    have H6 := Aside0.mk (H5.out.clk hm hc)
    have HM6 := Aside0.mk (Moves.step HM5.out (m_c hm))
    clear hc hm c0 H5 HM5
    have c1 : w6.cell? ⟨p.gs, 1, none⟩ = some (.pointer (some ⟨p.gp, 0, none⟩)) := (blk_cell H6.out.1 1).trans rfl
    go_wp2_with fail
    refine (next_calls _ _ _ H6.out.2.2.1).mono ?_
    rintro e w7 ⟨rfl, m, hw⟩
    have H7 : Aside0 (Raw w7 p M G l q false 0 o true (n : Int) maj last) := ⟨by rw [hw]; exact H6.out⟩
    have HM7 : Aside0 (Moves w w7 (S3 p)) := ⟨by rw [hw]; exact HM6.out.drewN m⟩
    clear hw c1 H6 HM6
    have fin : ∀ W : World, Raw W p M G l q false 0 false true (n : Int) maj last → Moves w W (S3 p) → Raw ((((W.setCell ⟨p.gs, 4, none⟩ (.bool false)).setCell ⟨p.gs, 5, none⟩ (.int .i64 0)).setCell ⟨p.gs, 6, none⟩ (.int .i64 0)).setCell ⟨p.gs, 7, none⟩ (.int .i64 q)) p M G l q false 0 false false 0 0 q ∧ Moves w ((((W.setCell ⟨p.gs, 4, none⟩ (.bool false)).setCell ⟨p.gs, 5, none⟩ (.int .i64 0)).setCell ⟨p.gs, 6, none⟩ (.int .i64 0)).setCell ⟨p.gs, 7, none⟩ (.int .i64 q)) (S3 p) := fun W hR hM => ⟨hR.own4 q, by repeat (first | exact hM | refine Moves.set (S := S3 p) ?_ (.inl rfl) _ _)⟩
    have FIN := Aside0.mk fin
    clear fin
    cases o
    · have c4 : w7.cell? ⟨p.gs, 4, none⟩ = some (.bool true) := (blk_cell H7.out.1 4).trans rfl
      have c5 : w7.cell? ⟨p.gs, 5, none⟩ = some (.int .i64 n) := (blk_cell H7.out.1 5).trans rfl
      have c6 : w7.cell? ⟨p.gs, 6, none⟩ = some (.int .i64 maj) := (blk_cell H7.out.1 6).trans rfl
      have c7 : w7.cell? ⟨p.gs, 7, none⟩ = some (.int .i64 last) := (blk_cell H7.out.1 7).trans rfl
      have f4 := blk_frozen H7.out.1 4
      have f5 := blk_frozen H7.out.1 5
      have f6 := blk_frozen H7.out.1 6
      have f7 := blk_frozen H7.out.1 7
      go_wp2_with fail
      go_ret2
      exact ⟨rfl, FIN.out _ H7.out HM7.out⟩
    · have c1 : w7.cell? ⟨p.gs, 1, none⟩ = some (.pointer (some ⟨p.gp, 0, none⟩)) := (blk_cell H7.out.1 1).trans rfl
      go_wp2_with fail
      refine (ack_calls _ _ H7.out.2.2.1).mono ?_
      rintro e w8 ⟨rfl, hc, hm⟩
      have H8 := Aside0.mk (H7.out.ctl (o' := false) hm hc)
      have HM8 := Aside0.mk (Moves.step HM7.out (m_p hm))
      clear hc hm c1 H7 HM7
      have c4 : w8.cell? ⟨p.gs, 4, none⟩ = some (.bool true) := (blk_cell H8.out.1 4).trans rfl
      have c5 : w8.cell? ⟨p.gs, 5, none⟩ = some (.int .i64 n) := (blk_cell H8.out.1 5).trans rfl
      have c6 : w8.cell? ⟨p.gs, 6, none⟩ = some (.int .i64 maj) := (blk_cell H8.out.1 6).trans rfl
      have c7 : w8.cell? ⟨p.gs, 7, none⟩ = some (.int .i64 last) := (blk_cell H8.out.1 7).trans rfl
      have f4 := blk_frozen H8.out.1 4
      have f5 := blk_frozen H8.out.1 5
      have f6 := blk_frozen H8.out.1 6
      have f7 := blk_frozen H8.out.1 7
      go_wp2_with fail
      go_ret2
      exact ⟨rfl, FIN.out _ H8.out HM8.out⟩
end Go.Proofs.Ytagnlbpndldfeaa.SLeave
