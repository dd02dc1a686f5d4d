/- A machine's time inside and outside a window: what each call comes to, in few words. -/
import Derived.Test.YtagnlbpndldfeaaSEnter
import Derived.Test.YtagnlbpndldfeaaSCycPure
namespace Go.Proofs.Ytagnlbpndldfeaa.SLive
open Go.RowKit Go.Proofs.Ytagnlbpndldfeaa.PSchedPlays Go.Proofs.YtagnlbpndldfeaaW.PrintWords Go.Proofs.YtagnlbpndldfeaaW.PrintLast Go.Proofs.YtagnlbpndldfeaaW.PrintMore Go.Proofs.Ytagnlbpndldfeaa.Aid Go.Proofs.Ytagnlbpndldfeaa.PlanBase Go.Proofs.Ytagnlbpndldfeaa.SPlanAt Go.Proofs.Ytagnlbpndldfeaa.SPlanStart Go.Proofs.Ytagnlbpndldfeaa.SPlanCalls Go.Proofs.Ytagnlbpndldfeaa.SPlanBudget Go.Proofs.Ytagnlbpndldfeaa.SBase Go.Proofs.Ytagnlbpndldfeaa.SState Go.Proofs.Ytagnlbpndldfeaa.SLeave Go.Proofs.Ytagnlbpndldfeaa.SEnter Go.Proofs.Ytagnlbpndldfeaa.SCycPure
set_option linter.unusedVariables false
set_option linter.unusedSimpArgs false
/-- Outside all windows. -/
def Outs (w : World) (p : Pl) (M G : Int) (l : List S45) (last : Int) : Prop := Raw w p M G l last false 0 false false 0 0 last
/-- Inside window i of major frame j, of which u is used. -/
def Ins (w : World) (p : Pl) (M G : Int) (l : List S45) (j : Int) (i : Nat) (bg B u last : Int) : Prop := Raw w p M G l (bg + u) true (bg + B) (decide (B ≤ u)) true i j last
/-- A window's numbers. -/
structure Win (M G : Int) (l : List S45) (j : Int) (i : Nat) (s y B bg : Int) : Prop where
  fit : Fit M l
  hi : i < l.length
  st : startS M l j i = (s, 0)
  hy : (rd_T45 l (i : Int)).f2 = y
  y1 : 1 ≤ y
  s0 : 0 ≤ s
  s1 : s + y ≤ 281474976710656
  g0 : 0 ≤ G
  g1 : G ≤ 16777216
  hB : B = max 0 (y - 40 - G)
  hbg : bg = s + min 40 y
theorem Win.bud {M G : Int} {l : List S45} {j : Int} {i : Nat} {s y B bg : Int} (W : Win M G l j i s y B bg) : budget G l i = B := by
  have := W.hi
  unfold budget
  rw [if_neg (by omega), W.hy, W.hB]
variable {w : World} {p : Pl} {M G : Int} {l : List S45} {j : Int} {i : Nat} {s y B bg u last : Int}
theorem win_of (hF : Fit M l) (hO : Ord 0 l) (j0 : 0 ≤ j) (j1 : j ≤ 2000000) (hi : i < l.length) (g0 : 0 ≤ G) (g1 : G ≤ 16777216) :
    Win M G l j i (j * M + (gd l i).f1) (gd l i).f2 (max 0 ((gd l i).f2 - 40 - G)) (j * M + (gd l i).f1 + min 40 (gd l i).f2) := by
  obtain ⟨b0, b1⟩ := big hF j0 j1
  have h := hF.2.2.2 _ (gd_mem hi)
  have M1 := hF.2.1
  exact ⟨hF, hi, start_is hF j0 j1 hi, by rw [rd_gd], by omega, by omega, by omega, g0, g1, rfl, rfl⟩
def spE (B u G n : Int) : Int := if B ≤ u then 8 else if n < 0 then 2 else if G < n then 142 else 0
def spU (B u G n : Int) : Int := if B ≤ u ∨ n < 0 ∨ G < n then u else u + n
/-- How much may be used. -/
def Use (y u : Int) : Prop := 0 ≤ u ∧ u ≤ max 0 (y - 40)
theorem use_sp (W : Win M G l j i s y B bg) (hu : Use y u) (n : Int) : Use y (spU B u G n) := by
  have hB := W.hB
  have g0 := W.g0
  unfold Use spU at *
  split <;> omega
theorem decide_add (a b c : Int) : decide (a + b ≤ a + c) = decide (b ≤ c) := by
  by_cases h : b ≤ c
  · rw [decide_eq_true h, decide_eq_true (by omega)]
  · rw [decide_eq_false h, decide_eq_false (by omega)]
theorem enter_live (W : Win M G l j i s y B bg) (h : Outs w p M G l last) (hN : nextR M l last = (j, (i : Int), 0)) (h0 : 0 ≤ last) (h1 : last ≤ s) :
    Calls Try.prog 9 #[.pointer (some ⟨p.gs, 0, none⟩)] w fun e w' => e = .returned (.tuple #[.int .i64 i, .int .i64 j, .int .i64 0]) ∧ Ins w' p M G l j i bg B 0 last ∧ Moves w w' (S3 p) := by
  have y1 := W.y1; have s0 := W.s0; have s1 := W.s1; have hB := W.hB; have hbg := W.hbg; have g0 := W.g0
  refine (enter_ok i j s _ _ y h ⟨W.fit⟩ ⟨hN⟩ ⟨W.hi⟩ ⟨W.st⟩ ⟨rfl⟩ ⟨rfl⟩ ⟨W.hy⟩ W.s0 (by omega) W.y1 B bg W.hbg.symm (by omega) ⟨⟨W.g0, W.g1⟩⟩ ⟨W.bud⟩).mono ?_
  rintro e w' ⟨rfl, hR, hM⟩
  refine ⟨rfl, ?_, hM⟩
  have e2 : decide (bg + B ≤ bg) = decide (B ≤ 0) := by
    have := decide_add bg B 0
    rwa [Int.add_zero] at this
  rw [e2] at hR
  unfold Ins
  rw [Int.add_zero]
  simpa using hR
theorem use_bg (W : Win M G l j i s y B bg) (hu : Use y u) : 0 ≤ bg + u ∧ bg + u ≤ s + y := by
  have y1 := W.y1; have s0 := W.s0; have hbg := W.hbg
  unfold Use at hu
  omega
theorem spend_live (W : Win M G l j i s y B bg) (h : Ins w p M G l j i bg B u last) (hu : Use y u) (n : Int) :
    Calls Try.prog 12 #[.pointer (some ⟨p.gs, 0, none⟩), .int .i64 n] w fun e w' => e = .returned (.int .i64 (spE B u G n)) ∧ Ins w' p M G l j i bg B (spU B u G n) last ∧ Moves w w' (S3 p) := by
  have quiet : ∀ {m : Nat}, Ins (w.drewN m) p M G l j i bg B u last ∧ Moves w (w.drewN m) (S3 p) := fun {m} => ⟨h.drewN m, (Moves.refl _ _).drewN m⟩
  unfold spE spU
  by_cases c0 : B ≤ u
  · rw [if_pos c0, if_pos (.inl c0)]
    refine (spend_no n h (by rw [decide_eq_true c0]; rfl)).mono ?_
    rintro e w' ⟨rfl, m, rfl⟩
    exact ⟨rfl, quiet⟩
  have hm : (true && !decide (B ≤ u)) = true := by rw [decide_eq_false c0]; rfl
  rw [if_neg c0]
  by_cases c1 : n < 0
  · rw [if_pos c1, if_pos (.inr (.inl c1))]
    refine (spend_neg n h hm c1).mono ?_
    rintro e w' ⟨rfl, m, rfl⟩
    exact ⟨rfl, quiet⟩
  rw [if_neg c1]
  by_cases c2 : G < n
  · rw [if_pos c2, if_pos (.inr (.inr c2))]
    refine (spend_big n h hm ⟨by omega, c2⟩).mono ?_
    rintro e w' ⟨rfl, m, rfl⟩
    exact ⟨rfl, quiet⟩
  rw [if_neg c2, if_neg (by omega)]
  have b0 := use_bg W hu
  have hs := use_bg W (use_sp W hu n)
  unfold spU at hs
  rw [if_neg (by omega)] at hs
  have s1 := W.s1
  refine (spend_ok n h hm (by omega) (by omega) b0.1 (by omega)).mono ?_
  rintro e w' ⟨rfl, hR, hM⟩
  refine ⟨rfl, ?_, hM⟩
  have e1 : (decide (B ≤ u) || (true && decide (bg + B ≤ bg + u + n))) = decide (B ≤ u + n) := by
    rw [decide_eq_false c0, Int.add_assoc, decide_add]
    rfl
  rw [e1, Int.add_assoc] at hR
  exact hR
theorem may_live (h : Ins w p M G l j i bg B u last) : Calls Try.prog 11 #[.pointer (some ⟨p.gs, 0, none⟩)] w fun e w' => e = .returned (.bool (decide (u < B))) ∧ ∃ m, w' = w.drewN m := by
  have := may_calls h
  have e : (true && !decide (B ≤ u)) = decide (u < B) := by
    by_cases c : B ≤ u
    · rw [decide_eq_true c, decide_eq_false (by omega)]
      rfl
    · rw [decide_eq_false c, decide_eq_true (by omega)]
      rfl
  rw [e] at this
  exact this
theorem may_out (h : Outs w p M G l last) : Calls Try.prog 11 #[.pointer (some ⟨p.gs, 0, none⟩)] w fun e w' => e = .returned (.bool false) ∧ ∃ m, w' = w.drewN m := may_calls h
theorem time_live (h : Ins w p M G l j i bg B u last) : Calls Try.prog 15 #[.pointer (some ⟨p.gs, 0, none⟩)] w fun e w' => e = .returned (.int .i64 (bg + u)) ∧ w' = w := time_calls h
theorem time_out (h : Outs w p M G l last) : Calls Try.prog 15 #[.pointer (some ⟨p.gs, 0, none⟩)] w fun e w' => e = .returned (.int .i64 last) ∧ w' = w := time_calls h
theorem now_live (h : Ins w p M G l j i bg B u last) : Calls Try.prog 10 #[.pointer (some ⟨p.gc, 0, none⟩)] w fun e w' => e = .returned (.int .i64 (bg + u)) ∧ w' = w := now_calls _ _ _ _ _ h.2.1
theorem now_live0 (h : Ins w p M G l j i bg B 0 last) : Calls Try.prog 10 #[.pointer (some ⟨p.gc, 0, none⟩)] w fun e w' => e = .returned (.int .i64 bg) ∧ w' = w := by
  have := now_live h
  rwa [Int.add_zero] at this
theorem now_out (h : Outs w p M G l last) : Calls Try.prog 10 #[.pointer (some ⟨p.gc, 0, none⟩)] w fun e w' => e = .returned (.int .i64 last) ∧ w' = w := now_calls _ _ _ _ _ h.2.1
theorem clk_live (h : Ins w p M G l j i bg B u last) : w.cell? ⟨p.gs, 0, none⟩ = some (.pointer (some ⟨p.gc, 0, none⟩)) := (blk_cell h.1 0).trans rfl
theorem clk_out (h : Outs w p M G l last) : w.cell? ⟨p.gs, 0, none⟩ = some (.pointer (some ⟨p.gc, 0, none⟩)) := (blk_cell h.1 0).trans rfl
theorem inside_live (h : Ins w p M G l j i bg B u last) : Calls Try.prog 16 #[.pointer (some ⟨p.gs, 0, none⟩)] w fun e w' => e = .returned (.tuple #[.int .i64 i, .int .i64 j, .bool true]) ∧ ∃ m, w' = w.drewN m := inside_calls h
theorem inside_out (h : Outs w p M G l last) : Calls Try.prog 16 #[.pointer (some ⟨p.gs, 0, none⟩)] w fun e w' => e = .returned (.tuple #[.int .i64 (-1), .int .i64 (-1), .bool false]) ∧ ∃ m, w' = w.drewN m := inside_calls h
theorem leave_live (W : Win M G l j i s y B bg) (h : Ins w p M G l j i bg B u last) (hu : Use y u) :
    Calls Try.prog 14 #[.pointer (some ⟨p.gs, 0, none⟩)] w fun e w' => e = .returned (.tuple #[.int .i64 (s + y), .int .i64 0]) ∧ Outs w' p M G l (s + y) ∧ Moves w w' (S3 p) := by
  have y1 := W.y1; have s0 := W.s0; have s1 := W.s1
  have hs := use_bg W hu
  exact leave_in i s _ _ y h ⟨W.fit⟩ ⟨W.hi⟩ ⟨W.st⟩ ⟨rfl⟩ ⟨rfl⟩ ⟨W.hy⟩ (s + y) ⟨rfl⟩ (w64 (by omega) (by omega)) (w64 (by omega) (by omega)) ⟨by omega⟩
theorem spend_out (h : Outs w p M G l last) (n : Int) : Calls Try.prog 12 #[.pointer (some ⟨p.gs, 0, none⟩), .int .i64 n] w fun e w' => e = .returned (.int .i64 8) ∧ ∃ m, w' = w.drewN m := spend_no n h rfl
/-- A state's blocks are new. -/
def Newer (w0 : World) (p : Pl) : Prop := w0.heap.size ≤ p.lo ∧ p.lo ≤ p.hi
theorem Ins.drewN (h : Ins w p M G l j i bg B u last) (m : Nat) : Ins (w.drewN m) p M G l j i bg B u last := h
theorem Outs.drewN (h : Outs w p M G l last) (m : Nat) : Outs (w.drewN m) p M G l last := h
theorem raw_newer {w0 w w' : World} {t a win maj : Int} {b o ins : Bool} (h : Raw w p M G l t b a o ins win maj last) (hn : Newer w0 p) (hb : Below w0.heap.size w0 w) (hm : Moves w w' (S3 p)) : Below w0.heap.size w0 w' := by
  refine hm.to_below hb (fun k hk => ?_)
  have h1 := h.2.2.2.2
  unfold Newer at hn
  rcases hk with rfl | rfl | rfl <;> omega
theorem Ins.newer {w0 w w' : World} (h : Ins w p M G l j i bg B u last) (hn : Newer w0 p) (hb : Below w0.heap.size w0 w) (hm : Moves w w' (S3 p)) : Below w0.heap.size w0 w' := raw_newer h hn hb hm
theorem Outs.newer {w0 w w' : World} (h : Outs w p M G l last) (hn : Newer w0 p) (hb : Below w0.heap.size w0 w) (hm : Moves w w' (S3 p)) : Below w0.heap.size w0 w' := raw_newer h hn hb hm
theorem _root_.Go.Proofs.Ytagnlbpndldfeaa.SState.Raw.far {w : World} {t a win maj : Int} {b o ins : Bool} {g : Nat} {cs : Array Value} {ty : TypeId} {f : Nat × Nat} (h : Raw w p M G l t b a o ins win maj last) (hg : w.heap[g]? = some (.cells cs ty f)) (h1 : ty ≠ 43) (h2 : ty ≠ 78) (h3 : ty ≠ 93) : ¬ S3 p g := by
  rintro (e | e | e)
  · exact ne_types hg h.1 h1 e
  · exact ne_types hg h.2.1 h2 e
  · exact ne_types hg h.2.2.1 h3 e
theorem Ins.far {g : Nat} {cs : Array Value} {ty : TypeId} {f : Nat × Nat} (h : Ins w p M G l j i bg B u last) (hg : w.heap[g]? = some (.cells cs ty f)) (h1 : ty ≠ 43) (h2 : ty ≠ 78) (h3 : ty ≠ 93) : ¬ S3 p g := Raw.far h hg h1 h2 h3
theorem Outs.far {g : Nat} {cs : Array Value} {ty : TypeId} {f : Nat × Nat} (h : Outs w p M G l last) (hg : w.heap[g]? = some (.cells cs ty f)) (h1 : ty ≠ 43) (h2 : ty ≠ 78) (h3 : ty ≠ 93) : ¬ S3 p g := Raw.far h hg h1 h2 h3
theorem Outs.below {w' : World} (h : Outs w p M G l last) (hb : Below w.heap.size w w') : Outs w' p M G l last := Raw.below h hb
theorem Ins.below {w' : World} (h : Ins w p M G l j i bg B u last) (hb : Below w.heap.size w w') : Ins w' p M G l j i bg B u last := Raw.below h hb
/-- The chapter's example. -/
def ex : List S45 := [⟨0, 0, 300⟩, ⟨1, 500, 100⟩]
theorem ex_new : newE 1000 60 ex = 0 := by simp [newE, chk, ex]
end Go.Proofs.Ytagnlbpndldfeaa.SLive
