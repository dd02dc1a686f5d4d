/- The clock and the controller of one line, by their places; what a call may write. -/
import Derived.Test.YtagnlbpndldfeaaPlanBase
import Derived.Deep.QuietTactic
import Derived.BigQuiet
import Derived.RegionTactic
namespace Go.Proofs.Ytagnlbpndldfeaa.SBase
open Go.RowKit Go.Proofs.Ytagnlbpndldfeaa.PSchedPlays Go.Proofs.YtagnlbpndldfeaaW.PrintWords Go.Proofs.YtagnlbpndldfeaaW.PrintLast Go.Proofs.YtagnlbpndldfeaaW.PrintMore Go.Proofs.Ytagnlbpndldfeaa.Aid Go.Proofs.Ytagnlbpndldfeaa.PlanBase

/-- A call writes into the blocks of S alone, and makes new ones. -/
def Moves (w w' : World) (S : Nat → Prop) : Prop := w'.os = w.os ∧ w'.tape = w.tape ∧ w'.output = w.output ∧ Kept w w' S
theorem Moves.refl (w : World) (S : Nat → Prop) : Moves w w S := ⟨rfl, rfl, rfl, Kept.refl w S⟩
theorem Moves.of_below {w w' : World} (h : Below w.heap.size w w') (S : Nat → Prop) : Moves w w' S := ⟨h.os, h.tape, h.output, Kept.of_below h S⟩
theorem Moves.drewN {w w' : World} {S : Nat → Prop} (h : Moves w w' S) (m : Nat) : Moves w (w'.drewN m) S := h
theorem Moves.drew {w w' : World} {S : Nat → Prop} (h : Moves w w' S) : Moves w w'.drew S := h
theorem Moves.setCell {w w' : World} {S : Nat → Prop} (h : Moves w w' S) {p : Addr} (hp : S p.block) (u : Value) : Moves w (w'.setCell p u) S := ⟨h.1, h.2.1, h.2.2.1, h.2.2.2.setCell (.inl hp) u⟩
theorem Moves.set {w w' : World} {S : Nat → Prop} (h : Moves w w' S) {g : Nat} (hg : S g) (j : Nat) (u : Value) : Moves w (w'.setCell ⟨g, j, none⟩ u) S := h.setCell (p := ⟨g, j, none⟩) hg u
theorem Moves.then_ {w w1 w2 : World} {S S2 : Nat → Prop} (h : Moves w w1 S) (k : Moves w1 w2 S2) (hs : ∀ k, S2 k → S k ∨ w.heap.size ≤ k) : Moves w w2 S :=
  ⟨k.1.trans h.1, k.2.1.trans h.2.1, k.2.2.1.trans h.2.2.1, h.2.2.2.then_ k.2.2.2 hs⟩
theorem Moves.to_below {w0 w w' : World} {S : Nat → Prop} (hb : Below w0.heap.size w0 w) (h : Moves w w' S) (hs : ∀ k, S k → w0.heap.size ≤ k) : Below w0.heap.size w0 w' :=
  ⟨h.1.trans hb.os, h.2.1.trans hb.tape, h.2.2.1.trans hb.output, Nat.le_trans hb.size h.2.2.2.1, fun k hk => (h.2.2.2.2 k (Nat.lt_of_lt_of_le hk hb.size) (fun hS => by have := hs k hS; omega)).trans (hb.block k hk)⟩
theorem Moves.blk {w w' : World} {S : Nat → Prop} {g : Nat} {o : Obj} (h : Moves w w' S) (hb : w.heap[g]? = some o) (hne : ¬ S g) : w'.heap[g]? = some o := blk_kept hb h.2.2.2 hne
/-- A clock at a place. -/
def Clk (w : World) (g : Nat) (t : Int) (b : Bool) (a : Int) : Prop := w.heap[g]? = some (.cells #[.int .i64 t, .bool b, .int .i64 a] 78 (0, 0))
/-- A controller of one line at a place. -/
def Ctl (w : World) (g : Nat) (p : Int) : Prop := w.heap[g]? = some (.cells #[.int .i64 1, .int .u32 p, .int .u32 0] 93 (0, 0))
variable (g : Nat) (t a n p : Int) (b : Bool) (w : World)
theorem now_calls (hC : Clk w g t b a) : Calls Try.prog 10 #[.pointer (some ⟨g, 0, none⟩)] w fun e w' => e = .returned (.int .i64 t) ∧ w' = w := by
  have c0 : w.cell? ⟨g, 0, none⟩ = some (.int .i64 t) := (blk_cell hC 0).trans rfl
  clear hC
  go_enter Try.func10, Try.ntmps10
  go_wp2_with fail
  go_ret
  exact ⟨rfl, rfl⟩
theorem clock_new : Calls Try.prog 25 #[] w fun e w' => ∃ g : Nat, e = .returned (.pointer (some ⟨g, 0, none⟩)) ∧ w.heap.size ≤ g ∧ Clk w' g 0 false 0 ∧ Below w.heap.size w w' := by
  go_enter Try.func25, Try.ntmps25
  go_wp2_with fail
  go_ret
  exact ⟨_, rfl, Nat.le_refl _, by simpa [Clk] using heap_alloc_new w _, below_alloc (Below.refl _ _) _⟩
theorem pic_new : Calls Try.prog 24 #[.int .i64 1] w fun e w' => ∃ g : Nat, e = .returned (.tuple #[.pointer (some ⟨g, 0, none⟩), .int .i64 0]) ∧ w.heap.size ≤ g ∧ Ctl w' g 0 ∧ Below w.heap.size w w' := by
  go_enter Try.func24, Try.ntmps24
  go_wp2_with fail
  go_ret2
  exact ⟨_, rfl, Nat.le_refl _, by simpa [Ctl] using heap_alloc_new w _, below_alloc (Below.refl _ _) _⟩
theorem advance_calls (hC : Clk w g t b a) (t0 : 0 ≤ t) (t1 : t ≤ 281474976710656) (n0 : 0 ≤ n) (n1 : t + n ≤ 281474976710656) :
    Calls Try.prog 29 #[.pointer (some ⟨g, 0, none⟩), .int .i64 n] w fun e w' => e = .returned (.int .i64 0) ∧ Clk w' g (t + n) b a ∧ Moves w w' (fun k => k = g) := by
  have c0 : w.cell? ⟨g, 0, none⟩ = some (.int .i64 t) := (blk_cell hC 0).trans rfl
  have f0 := blk_frozen hC 0
  have HC := Aside0.mk hC
  have d0 : decide (n < 0) = false := decide_eq_false (by omega)
  have e1 : wrap64 (281474976710656 - t) = 281474976710656 - t := w64 (by omega) (by omega)
  have e2 : wrap64 (t + n) = t + n := w64 (by omega) (by omega)
  have d1 : decide (281474976710656 - t < n) = false := decide_eq_false (by omega)
  clear hC t0 t1 n0 n1
  go_enter Try.func29, Try.ntmps29
  go_wp2_with fail
  go_ret
  exact ⟨rfl, by unfold Clk; simpa using blk_set HC.out 0 (.int .i64 (t + n)), Moves.set (S := fun k => k = g) (Moves.refl w _) rfl _ _⟩
set_option maxHeartbeats 1600000 in
set_option maxRecDepth 100000 in
theorem fired_calls (hC : Clk w g t b a) : Calls Try.prog 43 #[.pointer (some ⟨g, 0, none⟩)] w fun e w' => e = .returned (.bool (b && decide (a ≤ t))) ∧ ∃ m, w' = w.drewN m := by
  have c0 : w.cell? ⟨g, 0, none⟩ = some (.int .i64 t) := (blk_cell hC 0).trans rfl
  have c1 : w.cell? ⟨g, 1, none⟩ = some (.bool b) := (blk_cell hC 1).trans rfl
  have c2 : w.cell? ⟨g, 2, none⟩ = some (.int .i64 a) := (blk_cell hC 2).trans rfl
  clear hC
  cases b
  · go_enter Try.func43, Try.ntmps43
    go_wp2_with fail
    go_quiet (fail)
    go_wp2_with fail
    go_ret
    exact ⟨rfl, _, rfl⟩
  · cases d : decide (a ≤ t)
    · go_enter Try.func43, Try.ntmps43
      go_wp2_with fail
      go_quiet (fail)
      go_wp2_with fail
      go_ret
      exact ⟨rfl, _, rfl⟩
    · go_enter Try.func43, Try.ntmps43
      go_wp2_with fail
      go_quiet (fail)
      go_wp2_with fail
      go_ret
      exact ⟨rfl, _, rfl⟩
theorem arm_calls (hC : Clk w g t b a) (n0 : 0 ≤ n) (n1 : n ≤ 281474976710656) :
    Calls Try.prog 30 #[.pointer (some ⟨g, 0, none⟩), .int .i64 n] w fun e w' => e = .returned (.int .i64 0) ∧ Clk w' g t true n ∧ Moves w w' (fun k => k = g) := by
  have c1 : w.cell? ⟨g, 1, none⟩ = some (.bool b) := (blk_cell hC 1).trans rfl
  have c2 : w.cell? ⟨g, 2, none⟩ = some (.int .i64 a) := (blk_cell hC 2).trans rfl
  have f1 := blk_frozen hC 1
  have f2 := blk_frozen hC 2
  have HC := Aside0.mk hC
  have d0 : decide (n < 0) = false := decide_eq_false (by omega)
  have d1 : decide (281474976710656 < n) = false := decide_eq_false (by omega)
  clear hC n0 n1
  go_enter Try.func30, Try.ntmps30
  go_wp2_with fail
  go_ret
  exact ⟨rfl, by unfold Clk; simpa using blk_set (blk_set HC.out 1 (.bool true)) 2 (.int .i64 n), Moves.set (S := fun k => k = g) (Moves.set (S := fun k => k = g) (Moves.refl w _) rfl _ _) rfl _ _⟩
theorem disarm_calls (hC : Clk w g t b a) : Calls Try.prog 34 #[.pointer (some ⟨g, 0, none⟩)] w fun e w' => e = .returned (.tuple #[]) ∧ Clk w' g t false 0 ∧ Moves w w' (fun k => k = g) := by
  have c1 : w.cell? ⟨g, 1, none⟩ = some (.bool b) := (blk_cell hC 1).trans rfl
  have c2 : w.cell? ⟨g, 2, none⟩ = some (.int .i64 a) := (blk_cell hC 2).trans rfl
  have f1 := blk_frozen hC 1
  have f2 := blk_frozen hC 2
  have HC := Aside0.mk hC
  clear hC
  go_enter Try.func34, Try.ntmps34
  go_wp2_with fail
  go_end0
  exact ⟨rfl, by unfold Clk; simpa using blk_set (blk_set HC.out 1 (.bool false)) 2 (.int .i64 0), Moves.set (S := fun k => k = g) (Moves.set (S := fun k => k = g) (Moves.refl w _) rfl _ _) rfl _ _⟩
theorem has_calls (hC : Ctl w g p) : Calls Try.prog 45 #[.pointer (some ⟨g, 0, none⟩), .int .i64 0] w fun e w' => e = .returned (.bool true) ∧ w' = w := by
  have c0 : w.cell? ⟨g, 0, none⟩ = some (.int .i64 1) := (blk_cell hC 0).trans rfl
  clear hC
  go_enter Try.func45, Try.ntmps45
  go_wp2_with fail
  go_ret
  exact ⟨rfl, rfl⟩
/-- The line's bit. -/
def bit (o : Bool) : Int := if o then 1 else 0
set_option maxHeartbeats 1600000 in
theorem raise_calls (o : Bool) (hC : Ctl w g (bit o)) : Calls Try.prog 44 #[.pointer (some ⟨g, 0, none⟩), .int .i64 0] w fun e w' => e = .returned (.int .i64 0) ∧ Ctl w' g 1 ∧ Moves w w' (fun k => k = g) := by
  have c1 : w.cell? ⟨g, 1, none⟩ = some (.int .u32 (bit o)) := (blk_cell hC 1).trans rfl
  have f1 := blk_frozen hC 1
  have HC := Aside0.mk hC
  have e1 : Go.bits .or .u32 (bit o) (2 ^ 0 % 4294967296) = 1 := by cases o <;> decide
  have e2 : Go.bits .or .u32 (bit o) 1 = 1 := by cases o <;> decide
  clear hC
  go_enter Try.func44, Try.ntmps44
  go_wp2_with fail
  refine (has_calls g (bit o) w HC.out).mono ?_
  rintro e w1 ⟨rfl, rfl⟩
  go_wp2_with fail
  go_region
  all_goals
    go_wp2
    go_ret
    exact ⟨rfl, by refine Eq.trans (show _ = (w1.setCell ⟨g, 1, none⟩ (.int .u32 1)).heap[g]? from rfl) ?_; simpa using blk_set HC.out 1 (.int .u32 1), by repeat (first | exact Moves.refl _ _ | apply Moves.drewN | apply Moves.drew | refine Moves.set (S := fun k => k = g) ?_ rfl _ _)⟩
set_option maxHeartbeats 1600000 in
theorem ack_calls (hC : Ctl w g 1) : Calls Try.prog 35 #[.pointer (some ⟨g, 0, none⟩), .int .i64 0] w fun e w' => e = .returned (.int .i64 0) ∧ Ctl w' g 0 ∧ Moves w w' (fun k => k = g) := by
  have c1 : w.cell? ⟨g, 1, none⟩ = some (.int .u32 1) := (blk_cell hC 1).trans rfl
  have f1 := blk_frozen hC 1
  have HC := Aside0.mk hC
  have e1 : (Go.bits .and .u32 (1 / 2 ^ 0) 1 == 0) = false := by decide
  have e2 : Go.bits .andNot .u32 1 (2 ^ 0 % 4294967296) = 0 := by decide
  have e3 : Go.bits .andNot .u32 1 1 = 0 := by decide
  clear hC
  go_enter Try.func35, Try.ntmps35
  go_wp2_with fail
  refine (has_calls g 1 w HC.out).mono ?_
  rintro e w1 ⟨rfl, rfl⟩
  go_wp2_with fail
  go_region
  all_goals
    go_wp2
    go_ret
    exact ⟨rfl, by refine Eq.trans (show _ = (w1.setCell ⟨g, 1, none⟩ (.int .u32 0)).heap[g]? from rfl) ?_; simpa using blk_set HC.out 1 (.int .u32 0), by repeat (first | exact Moves.refl _ _ | apply Moves.drewN | apply Moves.drew | refine Moves.set (S := fun k => k = g) ?_ rfl _ _)⟩
set_option maxHeartbeats 3200000 in
set_option maxRecDepth 100000 in
theorem next_calls (o : Bool) (hC : Ctl w g (bit o)) : Calls Try.prog 33 #[.pointer (some ⟨g, 0, none⟩)] w fun e w' => e = .returned (.tuple #[.int .i64 0, .bool o]) ∧ ∃ m, w' = w.drewN m := by
  have c0 : w.cell? ⟨g, 0, none⟩ = some (.int .i64 1) := (blk_cell hC 0).trans rfl
  have c1 : w.cell? ⟨g, 1, none⟩ = some (.int .u32 (bit o)) := (blk_cell hC 1).trans rfl
  have c2 : w.cell? ⟨g, 2, none⟩ = some (.int .u32 0) := (blk_cell hC 2).trans rfl
  clear hC
  go_enter Try.func33, Try.ntmps33
  go_wp2_with fail
  go_loopw [9] (fun v wr => ∃ k : Nat, v = .int .i64 k ∧ (k = 0 ∧ wr = w ∨ k = 1 ∧ o = false ∧ ∃ m, wr = w.drewN m)) (fun v _ => 1 - (intOf v).toNat)
  case atStart => exact ⟨0, rfl, .inl ⟨rfl, rfl⟩⟩
  case round =>
    obtain ⟨k, rfl, hk⟩ := hrel
    rcases hk with ⟨rfl, rfl⟩ | ⟨rfl, rfl, m, rfl⟩
    · cases o
      · have d1 : (Go.bits .and .u32 (Go.bits .andNot .u32 (bit false) 0 / 2 ^ 0) 1 == 1) = false := by decide
        have d2 : (Go.bits .and .u32 (Go.bits .andNot .u32 (bit false) 0) 1 == 1) = false := by decide
        go_wp2_with fail
        go_quiet (fail)
        go_wp2_with fail
        go_roundw
        case rel => exact ⟨1, by go_num, by first | exact .inr ⟨rfl, rfl, _, rfl⟩ | exact .inr ⟨rfl, trivial, _, rfl⟩⟩
        case measure => simp [intOf]
      · have d1 : (Go.bits .and .u32 (Go.bits .andNot .u32 (bit true) 0 / 2 ^ 0) 1 == 1) = true := by decide
        have d2 : (Go.bits .and .u32 (Go.bits .andNot .u32 (bit true) 0) 1 == 1) = true := by decide
        go_wp2_with fail
        go_quiet (fail)
        go_wp2_with fail
        go_ret2
        exact ⟨rfl, _, rfl⟩
    · go_wp2_with fail
      go_ret2
      exact ⟨rfl, _, rfl⟩
end Go.Proofs.Ytagnlbpndldfeaa.SBase
