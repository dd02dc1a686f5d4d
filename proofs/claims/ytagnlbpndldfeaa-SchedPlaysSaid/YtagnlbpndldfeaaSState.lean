/- A machine's time in memory, and what its smaller methods come to. -/
import Derived.Test.YtagnlbpndldfeaaSBase
import Derived.Test.YtagnlbpndldfeaaSPlanBudget
namespace Go.Proofs.Ytagnlbpndldfeaa.SState
open Go.RowKit Go.Proofs.Ytagnlbpndldfeaa.PSchedPlays Go.Proofs.YtagnlbpndldfeaaW.PrintWords Go.Proofs.YtagnlbpndldfeaaW.PrintLast Go.Proofs.YtagnlbpndldfeaaW.PrintMore Go.Proofs.Ytagnlbpndldfeaa.Aid Go.Proofs.Ytagnlbpndldfeaa.PlanBase Go.Proofs.Ytagnlbpndldfeaa.SBase

/-- The places of a machine's time: itself, the clock, the controller, the frame table, and the blocks that the table needs. -/
structure Pl where
  gs : Nat
  gc : Nat
  gp : Nat
  gq : Nat
  lo : Nat
  hi : Nat
/-- The blocks that its methods write. -/
def S3 (p : Pl) (k : Nat) : Prop := k = p.gs ∨ k = p.gc ∨ k = p.gp
/-- A frame table that needs the blocks from lo to hi alone. -/
def PlanI (T : Nat) (w : World) (g : Nat) (M G : Int) (l : List S45) (lo hi : Nat) : Prop := hi ≤ w.heap.size ∧ ∀ w2 : World, (∀ k, lo ≤ k → k < hi → w2.heap[k]? = w.heap[k]?) → Plan T w2 g M G l
theorem PlanI.now {T : Nat} {w : World} {g : Nat} {M G : Int} {l : List S45} {lo hi : Nat} (h : PlanI T w g M G l lo hi) : Plan T w g M G l := h.2 w (fun _ _ _ => rfl)
theorem PlanI.moves {T : Nat} {w w' : World} {g : Nat} {M G : Int} {l : List S45} {lo hi : Nat} {S : Nat → Prop} (h : PlanI T w g M G l lo hi) (hm : Moves w w' S) (hs : ∀ k, S k → k < lo ∨ hi ≤ k) : PlanI T w' g M G l lo hi :=
  ⟨Nat.le_trans h.1 hm.2.2.2.1, fun w2 hk => h.2 w2 (fun k h1 h2 => (hk k h1 h2).trans (hm.2.2.2.2 k (Nat.lt_of_lt_of_le h2 h.1) (fun hS => by rcases hs k hS with h3 | h3 <;> omega)))⟩
/-- The machine's time itself. -/
def Own (w : World) (p : Pl) (G : Int) (ins : Bool) (win maj last : Int) : Prop := w.heap[p.gs]? = some (.cells #[.pointer (some ⟨p.gc, 0, none⟩), .pointer (some ⟨p.gp, 0, none⟩), .pointer (some ⟨p.gq, 0, none⟩), .int .i64 G, .bool ins, .int .i64 win, .int .i64 maj, .int .i64 last] 43 (0, 0))
/-- All of it. -/
def Raw (w : World) (p : Pl) (M G : Int) (l : List S45) (t : Int) (b : Bool) (a : Int) (o ins : Bool) (win maj last : Int) : Prop :=
  Own w p G ins win maj last ∧ Clk w p.gc t b a ∧ Ctl w p.gp (bit o) ∧ PlanI 90 w p.gq M G l p.lo p.hi ∧ p.hi ≤ p.gs ∧ p.hi ≤ p.gc ∧ p.hi ≤ p.gp
theorem ne_types {w : World} {g g' : Nat} {cs cs' : Array Value} {t t' : TypeId} {f f' : Nat × Nat} (h : w.heap[g]? = some (.cells cs t f)) (h' : w.heap[g']? = some (.cells cs' t' f')) (hn : t ≠ t') : g ≠ g' := by
  rintro rfl
  rw [h] at h'
  injection h' with h'
  injection h' with _ ht
  exact hn ht
variable {w w' : World} {p : Pl} {M G : Int} {l : List S45} {t : Int} {b : Bool} {a : Int} {o ins : Bool} {win maj last : Int}
theorem Raw.sc (h : Raw w p M G l t b a o ins win maj last) : p.gs ≠ p.gc := ne_types h.1 h.2.1 (by decide)
theorem Raw.sp (h : Raw w p M G l t b a o ins win maj last) : p.gs ≠ p.gp := ne_types h.1 h.2.2.1 (by decide)
theorem Raw.cp (h : Raw w p M G l t b a o ins win maj last) : p.gc ≠ p.gp := ne_types h.2.1 h.2.2.1 (by decide)
/-- What others write leaves it alone. -/
theorem Raw.moves {S : Nat → Prop} (h : Raw w p M G l t b a o ins win maj last) (hm : Moves w w' S) (h1 : ¬ S p.gs) (h2 : ¬ S p.gc) (h3 : ¬ S p.gp) (hs : ∀ k, S k → k < p.lo ∨ p.hi ≤ k) : Raw w' p M G l t b a o ins win maj last :=
  ⟨hm.blk h.1 h1, hm.blk h.2.1 h2, hm.blk h.2.2.1 h3, h.2.2.2.1.moves hm hs, h.2.2.2.2⟩
theorem Raw.below (h : Raw w p M G l t b a o ins win maj last) (hb : Below w.heap.size w w') : Raw w' p M G l t b a o ins win maj last :=
  h.moves (Moves.of_below hb (fun _ => False)) id id id (fun _ hk => hk.elim)
theorem Raw.drewN (h : Raw w p M G l t b a o ins win maj last) (m : Nat) : Raw (w.drewN m) p M G l t b a o ins win maj last := h
/-- The clock moves. -/
theorem Raw.clk (h : Raw w p M G l t b a o ins win maj last) {t' : Int} {b' : Bool} {a' : Int} (hm : Moves w w' (fun k => k = p.gc)) (hc : Clk w' p.gc t' b' a') : Raw w' p M G l t' b' a' o ins win maj last :=
  ⟨hm.blk h.1 h.sc, hc, hm.blk h.2.2.1 (Ne.symm h.cp), h.2.2.2.1.moves hm (fun k hk => .inr (by rw [hk]; exact h.2.2.2.2.2.1)), h.2.2.2.2⟩
/-- The controller moves. -/
theorem Raw.ctl (h : Raw w p M G l t b a o ins win maj last) {o' : Bool} (hm : Moves w w' (fun k => k = p.gp)) (hc : Ctl w' p.gp (bit o')) : Raw w' p M G l t b a o' ins win maj last :=
  ⟨hm.blk h.1 h.sp, hm.blk h.2.1 h.cp, hc, h.2.2.2.1.moves hm (fun k hk => .inr (by rw [hk]; exact h.2.2.2.2.2.2)), h.2.2.2.2⟩
theorem m_c (h : Moves w w' (fun k => k = p.gc)) : Moves w w' (S3 p) := ⟨h.1, h.2.1, h.2.2.1, h.2.2.2.mono (fun _ hk => .inr (.inl hk))⟩
theorem m_p (h : Moves w w' (fun k => k = p.gp)) : Moves w w' (S3 p) := ⟨h.1, h.2.1, h.2.2.1, h.2.2.2.mono (fun _ hk => .inr (.inr hk))⟩
theorem Moves.step {w1 w2 : World} {S : Nat → Prop} (h : Moves w w1 S) (k : Moves w1 w2 S) : Moves w w2 S := h.then_ k (fun _ hk => .inl hk)

theorem time_calls (h : Raw w p M G l t b a o ins win maj last) : Calls Try.prog 15 #[.pointer (some ⟨p.gs, 0, none⟩)] w fun e w' => e = .returned (.int .i64 (if ins then t else last)) ∧ w' = w := by
  have c0 : w.cell? ⟨p.gs, 0, none⟩ = some (.pointer (some ⟨p.gc, 0, none⟩)) := (blk_cell h.1 0).trans rfl
  have c4 : w.cell? ⟨p.gs, 4, none⟩ = some (.bool ins) := (blk_cell h.1 4).trans rfl
  have c7 : w.cell? ⟨p.gs, 7, none⟩ = some (.int .i64 last) := (blk_cell h.1 7).trans rfl
  have HC := Aside0.mk h.2.1
  clear h
  cases ins
  · go_enter Try.func15, Try.ntmps15
    go_wp2_with fail
    go_ret
    exact ⟨rfl, rfl⟩
  · go_enter Try.func15, Try.ntmps15
    go_wp2_with fail
    refine (now_calls _ _ _ _ _ HC.out).mono ?_
    rintro e w1 ⟨rfl, rfl⟩
    go_wp2_with fail
    go_ret
    exact ⟨rfl, rfl⟩
theorem inside_calls (h : Raw w p M G l t b a o ins win maj last) : Calls Try.prog 16 #[.pointer (some ⟨p.gs, 0, none⟩)] w fun e w' => e = .returned (.tuple #[.int .i64 (if ins then win else -1), .int .i64 (if ins then maj else -1), .bool ins]) ∧ ∃ m, w' = w.drewN m := by
  have c4 : w.cell? ⟨p.gs, 4, none⟩ = some (.bool ins) := (blk_cell h.1 4).trans rfl
  have c5 : w.cell? ⟨p.gs, 5, none⟩ = some (.int .i64 win) := (blk_cell h.1 5).trans rfl
  have c6 : w.cell? ⟨p.gs, 6, none⟩ = some (.int .i64 maj) := (blk_cell h.1 6).trans rfl
  clear h
  cases ins
  · go_enter Try.func16, Try.ntmps16
    go_wp2_with fail
    go_ret3
    exact ⟨rfl, 0, rfl⟩
  · go_enter Try.func16, Try.ntmps16
    go_wp2_with fail
    go_quiet (fail)
    go_wp2_with fail
    go_ret3
    exact ⟨rfl, _, rfl⟩
theorem may_calls (h : Raw w p M G l t b a o ins win maj last) : Calls Try.prog 11 #[.pointer (some ⟨p.gs, 0, none⟩)] w fun e w' => e = .returned (.bool (ins && !o)) ∧ ∃ m, w' = w.drewN m := by
  have c1 : w.cell? ⟨p.gs, 1, none⟩ = some (.pointer (some ⟨p.gp, 0, none⟩)) := (blk_cell h.1 1).trans rfl
  have H := Aside0.mk h
  clear h
  go_enter Try.func11, Try.ntmps11
  go_wp2_with fail
  refine (next_calls _ _ _ H.out.2.2.1).mono ?_
  rintro e w1 ⟨rfl, m, hw⟩
  have h1 : Raw w1 p M G l t b a o ins win maj last := by rw [hw]; exact H.out
  have c4 : w1.cell? ⟨p.gs, 4, none⟩ = some (.bool ins) := (blk_cell h1.1 4).trans rfl
  have HW := Aside0.mk hw
  clear h1 hw c1
  cases ins
  all_goals
    go_wp2_with fail
    go_ret
    exact ⟨rfl, m, HW.out⟩
theorem tick_calls (h : Raw w p M G l t b a o ins win maj last) : Calls Try.prog 32 #[.pointer (some ⟨p.gs, 0, none⟩)] w fun e w' => e = .returned (.tuple #[]) ∧ Raw w' p M G l t b a (o || (b && decide (a ≤ t))) ins win maj last ∧ Moves w w' (S3 p) := by
  have c0 : w.cell? ⟨p.gs, 0, none⟩ = some (.pointer (some ⟨p.gc, 0, none⟩)) := (blk_cell h.1 0).trans rfl
  have H := Aside0.mk h
  clear h
  go_enter Try.func32, Try.ntmps32
  go_wp2_with fail
  refine (fired_calls _ _ _ _ _ H.out.2.1).mono ?_
  rintro e w1 ⟨rfl, m, hw⟩
  have HM : Aside0 (Moves w w1 (S3 p)) := ⟨by rw [hw]; exact (Moves.refl _ _).drewN m⟩
  have H1 : Aside0 (Raw w1 p M G l t b a o ins win maj last) := ⟨by rw [hw]; exact H.out⟩
  have c1 : w1.cell? ⟨p.gs, 1, none⟩ = some (.pointer (some ⟨p.gp, 0, none⟩)) := (blk_cell H1.out.1 1).trans rfl
  clear hw c0 H
  cases hf : (b && decide (a ≤ t))
  · go_wp2_with fail
    go_end0
    exact ⟨rfl, by simpa [hf] using H1.out, HM.out⟩
  · go_wp2_with fail
    refine (raise_calls _ _ _ H1.out.2.2.1).mono ?_
    rintro e w2 ⟨rfl, hc, hm⟩
    have H2 := Aside0.mk (H1.out.ctl (o' := true) hm hc)
    have HM2 := Aside0.mk (Moves.step HM.out (m_p hm))
    clear hc hm c1
    go_wp2_with fail
    go_end0
    exact ⟨rfl, by simpa [hf] using H2.out, HM2.out⟩
theorem spend_no (n : Int) (h : Raw w p M G l t b a o ins win maj last) (hm : (ins && !o) = false) : Calls Try.prog 12 #[.pointer (some ⟨p.gs, 0, none⟩), .int .i64 n] w fun e w' => e = .returned (.int .i64 8) ∧ ∃ m, w' = w.drewN m := by
  go_enter Try.func12, Try.ntmps12
  go_wp2_with fail
  refine (may_calls h).mono ?_
  rw [hm]
  rintro e w1 ⟨rfl, m, hw⟩
  have HW := Aside0.mk hw
  clear hw h
  go_wp2_with fail
  go_ret
  exact ⟨rfl, m, HW.out⟩
theorem spend_neg (n : Int) (h : Raw w p M G l t b a o ins win maj last) (hm : (ins && !o) = true) (hn : n < 0) : Calls Try.prog 12 #[.pointer (some ⟨p.gs, 0, none⟩), .int .i64 n] w fun e w' => e = .returned (.int .i64 2) ∧ ∃ m, w' = w.drewN m := by
  have H := Aside0.mk h
  clear h
  go_enter Try.func12, Try.ntmps12
  go_wp2_with fail
  refine (may_calls H.out).mono ?_
  rw [hm]
  rintro e w1 ⟨rfl, m, hw⟩
  have c3 : w1.cell? ⟨p.gs, 3, none⟩ = some (.int .i64 G) := by rw [hw]; exact (blk_cell H.out.1 3).trans rfl
  have HW := Aside0.mk hw
  clear hw
  have d0 : decide (n < 0) = true := decide_eq_true hn
  go_wp2_with fail
  go_ret
  exact ⟨rfl, m, HW.out⟩
theorem spend_big (n : Int) (h : Raw w p M G l t b a o ins win maj last) (hm : (ins && !o) = true) (hn : 0 ≤ n ∧ G < n) : Calls Try.prog 12 #[.pointer (some ⟨p.gs, 0, none⟩), .int .i64 n] w fun e w' => e = .returned (.int .i64 142) ∧ ∃ m, w' = w.drewN m := by
  have H := Aside0.mk h
  clear h
  go_enter Try.func12, Try.ntmps12
  go_wp2_with fail
  refine (may_calls H.out).mono ?_
  rw [hm]
  rintro e w1 ⟨rfl, m, hw⟩
  have c3 : w1.cell? ⟨p.gs, 3, none⟩ = some (.int .i64 G) := by rw [hw]; exact (blk_cell H.out.1 3).trans rfl
  have HW := Aside0.mk hw
  clear hw
  have d0 : decide (n < 0) = false := decide_eq_false (by omega)
  have d1 : decide (G < n) = true := decide_eq_true hn.2
  go_wp2_with fail
  go_ret
  exact ⟨rfl, m, HW.out⟩
theorem spend_ok (n : Int) (h : Raw w p M G l t b a o ins win maj last) (hm : (ins && !o) = true) (n0 : 0 ≤ n) (n1 : n ≤ G) (t0 : 0 ≤ t) (t1 : t + n ≤ 281474976710656) : Calls Try.prog 12 #[.pointer (some ⟨p.gs, 0, none⟩), .int .i64 n] w fun e w' => e = .returned (.int .i64 0) ∧ Raw w' p M G l (t + n) b a (o || (b && decide (a ≤ t + n))) ins win maj last ∧ Moves w w' (S3 p) := by
  have H := Aside0.mk h
  clear h
  go_enter Try.func12, Try.ntmps12
  go_wp2_with fail
  refine (may_calls H.out).mono ?_
  rw [hm]
  rintro e w1 ⟨rfl, m, hw⟩
  have H1 : Aside0 (Raw w1 p M G l t b a o ins win maj last) := ⟨by rw [hw]; exact H.out⟩
  have HM : Aside0 (Moves w w1 (S3 p)) := ⟨by rw [hw]; exact (Moves.refl _ _).drewN m⟩
  have c3 : w1.cell? ⟨p.gs, 3, none⟩ = some (.int .i64 G) := (blk_cell H1.out.1 3).trans rfl
  have c0 : w1.cell? ⟨p.gs, 0, none⟩ = some (.pointer (some ⟨p.gc, 0, none⟩)) := (blk_cell H1.out.1 0).trans rfl
  have d0 : decide (n < 0) = false := decide_eq_false (by omega)
  have d1 : decide (G < n) = false := decide_eq_false (by omega)
  clear hw H
  go_wp2_with fail
  refine (advance_calls _ _ _ _ _ _ H1.out.2.1 t0 (by omega) n0 t1).mono ?_
  rintro e w2 ⟨rfl, hc, hm2⟩
  have H2 := Aside0.mk (H1.out.clk hm2 hc)
  have HM2 := Aside0.mk (Moves.step HM.out (m_c hm2))
  clear hc hm2 c0 c3 H1 HM
  go_wp2_with fail
  refine (tick_calls H2.out).mono ?_
  rintro e w3 ⟨rfl, hr, hm3⟩
  have H3 := Aside0.mk hr
  have HM3 := Aside0.mk (Moves.step HM2.out hm3)
  clear hr hm3
  go_wp2_with fail
  go_ret
  exact ⟨rfl, H3.out, HM3.out⟩
end Go.Proofs.Ytagnlbpndldfeaa.SState
