/- Both times look alike; a clone is one of its own. -/
import Derived.Test.YtagnlbpndldfeaaSPlaysB
namespace Go.Proofs.Ytagnlbpndldfeaa.SPlaysC
open Go.RowKit Go.Proofs.Ytagnlbpndldfeaa.PSchedPlays Go.Proofs.YtagnlbpndldfeaaW.PrintWords Go.Proofs.YtagnlbpndldfeaaW.PrintLast Go.Proofs.YtagnlbpndldfeaaW.PrintMore Go.Proofs.Ytagnlbpndldfeaa.Aid Go.Proofs.Ytagnlbpndldfeaa.PlanBase Go.Proofs.Ytagnlbpndldfeaa.SPlanAt Go.Proofs.Ytagnlbpndldfeaa.SPlanStart Go.Proofs.Ytagnlbpndldfeaa.SPlanCalls Go.Proofs.Ytagnlbpndldfeaa.SPlanBudget Go.Proofs.Ytagnlbpndldfeaa.SBase Go.Proofs.Ytagnlbpndldfeaa.SState Go.Proofs.Ytagnlbpndldfeaa.SLeave Go.Proofs.Ytagnlbpndldfeaa.SEnter Go.Proofs.Ytagnlbpndldfeaa.SCycPure Go.Proofs.Ytagnlbpndldfeaa.SLive Go.Proofs.Ytagnlbpndldfeaa.SPlaysR Go.Proofs.Ytagnlbpndldfeaa.SPlaysB
set_option linter.unusedVariables false
set_option linter.unusedSimpArgs false
set_option maxHeartbeats 1600000 in
set_option maxRecDepth 100000 in
theorem rbudget_q (g : Nat) (M G y2 : Int) (i : Nat) (l : List S45) (w : World) (hP : Aside0 (Plan 87 w g M G l)) (hi : i < l.length) (G0 : 0 ≤ G) (G1 : G ≤ 16777216)
    (hy2 : Aside0 ((rd_T45 l (i : Int)).f2 = y2)) (b0 : 1 ≤ y2) (b1 : y2 ≤ 281474976710656) :
    Calls Try.prog 46 #[.pointer (some ⟨g, 0, none⟩), .int .i64 i] w fun e w' => e = .returned (.int .i64 (max 0 (y2 - 40 - G))) ∧ ∃ m, w' = w.drewN m := by
  obtain ⟨A, c, hb, hr, hc⟩ := hP.out
  have hgl := blk_lt hb
  have c1 : w.cell? ⟨g, 1, none⟩ = some (.int .i64 G) := (blk_cell hb 1).trans rfl
  have c2 : w.cell? ⟨g, 2, none⟩ = some (.slice A l.length c) := (blk_cell hb 2).trans rfl
  obtain ⟨ad, hA, hx0, hx1, hx2⟩ := at_T45 hr (i : Int) (by omega) (by omega)
  rw [Int.toNat_natCast] at hx0 hx1 hx2
  rw [hy2.out] at hx2
  subst hA
  have fi : decide ((i : Int) < 0) = false := decide_eq_false (by omega)
  have hi2 : decide ((l.length : Int) ≤ (i : Int)) = false := decide_eq_false (by omega)
  have hi3 : decide (l.length ≤ i) = false := decide_eq_false (by omega)
  clear hb hr hc hx0 hx1
  go_enter Try.func46, Try.ntmps46
  go_wp2_with fail
  go_quiet (fail)
  go_wp2_with fail
  all_goals
    go_ret
    exact ⟨by first | (rw [show max 0 (y2 - 40 - G) = 0 by omega]; rfl) | (rw [show max 0 (y2 - 40 - G) = y2 - 40 - G by omega]; rfl), by first | exact ⟨_, rfl⟩ | exact ⟨0, rfl⟩⟩
theorem drewN2 (w : World) (m k : Nat) : (w.drewN m).drewN k = w.drewN (m + k) := by
  unfold World.drewN
  simp [Nat.add_assoc]
variable {w : World} {p : Pl} {r : RP} {M G : Int} {l : List S45}
set_option maxHeartbeats 1600000 in
set_option maxRecDepth 100000 in
theorem rmay_q {n : Nat} {T J U La y B : Int} (h : RRaw w r M G l T (n : Int) J U La) (hn : n < l.length) (hG : 0 ≤ G ∧ G ≤ 16777216) (hy : (rd_T45 l (n : Int)).f2 = y) (y1 : 1 ≤ y ∧ y ≤ 281474976710656) (hB : B = max 0 (y - 40 - G)) : Calls Try.prog 39 #[.pointer (some ⟨r.g, 0, none⟩)] w fun e w' => e = .returned (.bool (decide (U < B))) ∧ ∃ m, w' = w.drewN m := by
  have c0 : w.cell? ⟨r.g, 0, none⟩ = some (.pointer (some ⟨r.gq, 0, none⟩)) := (blk_cell h.1 0).trans rfl
  have c2 : w.cell? ⟨r.g, 2, none⟩ = some (.int .i64 (n : Int)) := (blk_cell h.1 2).trans rfl
  have c4 : w.cell? ⟨r.g, 4, none⟩ = some (.int .i64 U) := (blk_cell h.1 4).trans rfl
  have HP := Aside0.mk h.2.1.now
  have hd : decide ((0 : Int) ≤ (n : Int)) = true := decide_eq_true (by omega)
  have HC : Aside0 (∀ m, Calls Try.prog 46 #[.pointer (some ⟨r.gq, 0, none⟩), .int .i64 (n : Int)] (w.drewN m) fun e w' => e = .returned (.int .i64 B) ∧ ∃ m', w' = (w.drewN m).drewN m') := ⟨fun m => by
    rw [hB]
    exact rbudget_q r.gq M G y n l (w.drewN m) ⟨HP.out⟩ hn hG.1 hG.2 ⟨hy⟩ y1.1 y1.2⟩
  clear h hy hB HP
  go_enter Try.func39, Try.ntmps39
  go_wp2_with fail
  go_quiet ((go_at_call 46; exact Calls.quiet_of (HC.out _)))
  go_wp2_with fail
  go_ret
  exact ⟨rfl, _, rfl⟩
set_option maxHeartbeats 3200000 in
set_option maxRecDepth 100000 in
theorem same_calls {q : Q} (hs : SS w p M G l q) (hr : RR w r M G l q) (hq : q.ok M G l) (hG : 0 ≤ G ∧ G ≤ 16777216) : Calls Try.prog 22 #[.pointer (some ⟨p.gs, 0, none⟩), .pointer (some ⟨r.g, 0, none⟩)] w fun e w' => e = .returned (.bool true) ∧ ∃ m, w' = w.drewN m := by
  cases q with
  | o last =>
    have HS : Aside0 (Outs w p M G l last) := ⟨hs⟩
    have HR : Aside0 (RRaw w r M G l last (-1) (-1) 0 last) := ⟨hr⟩
    clear hs hr hq
    go_enter Try.func22, Try.ntmps22
    go_wp2_with fail
    refine (inside_out HS.out).mono ?_
    rintro e w1 ⟨rfl, m, hw⟩
    have HS1 : Aside0 (Outs w1 p M G l last) := ⟨by rw [hw]; exact HS.out.drewN m⟩
    have HR1 : Aside0 (RRaw w1 r M G l last (-1) (-1) 0 last) := ⟨by rw [hw]; exact HR.out.drewN m⟩
    have HW := Aside0.mk hw
    have g0 := clk_out HS1.out
    have c1 : w1.cell? ⟨r.g, 1, none⟩ = some (.int .i64 last) := (blk_cell HR1.out.1 1).trans rfl
    have c2 : w1.cell? ⟨r.g, 2, none⟩ = some (.int .i64 (-1)) := (blk_cell HR1.out.1 2).trans rfl
    have c3 : w1.cell? ⟨r.g, 3, none⟩ = some (.int .i64 (-1)) := (blk_cell HR1.out.1 3).trans rfl
    clear hw HS HR
    go_wp2_with fail
    go_quiet (first | (go_at_call 10; with_reducible exact Calls.quiet_of_same (now_out (HS1.out.drewN _))) | (go_at_call 15; with_reducible exact Calls.quiet_of_same (time_out (HS1.out.drewN _))) | (go_at_call 42; with_reducible exact Calls.quiet_of_same (rtime_out (HR1.out.drewN _))) | (go_at_call 11; with_reducible exact Calls.quiet_of (may_out (HS1.out.drewN _))) | (go_at_call 39; with_reducible exact Calls.quiet_of (rmay_out (HR1.out.drewN _))))
    go_wp2_with fail
    go_ret
    exact ⟨rfl, _, by rw [HW.out]; exact drewN2 _ _ _⟩
  | i j n s y B bg u last =>
    obtain ⟨W, hu, j0⟩ := hq
    have HS : Aside0 (Ins w p M G l j n bg B u last) := ⟨hs⟩
    have HR : Aside0 (RRaw w r M G l (bg + u) n j u last) := ⟨hr⟩
    have HMY : Aside0 (∀ v : World, RRaw v r M G l (bg + u) n j u last → Calls Try.prog 39 #[.pointer (some ⟨r.g, 0, none⟩)] v fun e w' => e = .returned (.bool (decide (u < B))) ∧ ∃ m, w' = v.drewN m) := ⟨fun v hv => rmay_q hv W.hi hG W.hy ⟨W.y1, by have := W.s0; have := W.s1; omega⟩ W.hB⟩
    have HTM : Aside0 (∀ v : World, RRaw v r M G l (bg + u) n j u last → Calls Try.prog 42 #[.pointer (some ⟨r.g, 0, none⟩)] v fun e w' => e = .returned (.int .i64 (bg + u)) ∧ w' = v) := ⟨fun v hv => rtime_in hv (by omega)⟩
    have HNW : Aside0 (∀ v : World, Ins v p M G l j n bg B u last → Calls Try.prog 10 #[.pointer (some ⟨p.gc, 0, none⟩)] v fun e w' => e = .returned (.int .i64 (bg + u)) ∧ w' = v) := ⟨fun v hv => now_live hv⟩
    have HTL : Aside0 (∀ v : World, Ins v p M G l j n bg B u last → Calls Try.prog 15 #[.pointer (some ⟨p.gs, 0, none⟩)] v fun e w' => e = .returned (.int .i64 (bg + u)) ∧ w' = v) := ⟨fun v hv => time_live hv⟩
    have HML : Aside0 (∀ v : World, Ins v p M G l j n bg B u last → Calls Try.prog 11 #[.pointer (some ⟨p.gs, 0, none⟩)] v fun e w' => e = .returned (.bool (decide (u < B))) ∧ ∃ m, w' = v.drewN m) := ⟨fun v hv => may_live hv⟩
    have d : decide ((0 : Int) ≤ (n : Int)) = true := decide_eq_true (by omega)
    clear hs hr W hu
    go_enter Try.func22, Try.ntmps22
    go_wp2_with fail
    refine (inside_live HS.out).mono ?_
    rintro e w1 ⟨rfl, m, hw⟩
    have HS1 : Aside0 (Ins w1 p M G l j n bg B u last) := ⟨by rw [hw]; exact HS.out.drewN m⟩
    have HR1 : Aside0 (RRaw w1 r M G l (bg + u) n j u last) := ⟨by rw [hw]; exact HR.out.drewN m⟩
    have HW := Aside0.mk hw
    have g0 := clk_live HS1.out
    have c1 : w1.cell? ⟨r.g, 1, none⟩ = some (.int .i64 (bg + u)) := (blk_cell HR1.out.1 1).trans rfl
    have c2 : w1.cell? ⟨r.g, 2, none⟩ = some (.int .i64 n) := (blk_cell HR1.out.1 2).trans rfl
    have c3 : w1.cell? ⟨r.g, 3, none⟩ = some (.int .i64 j) := (blk_cell HR1.out.1 3).trans rfl
    generalize decide (u < B) = my at *
    generalize bg + u = T at *
    clear hw HS HR
    go_wp2_with fail
    go_quiet (first | (go_at_call 10; with_reducible exact Calls.quiet_of_same (HNW.out _ (HS1.out.drewN _))) | (go_at_call 15; with_reducible exact Calls.quiet_of_same (HTL.out _ (HS1.out.drewN _))) | (go_at_call 42; with_reducible exact Calls.quiet_of_same (HTM.out _ (HR1.out.drewN _))) | (go_at_call 11; with_reducible exact Calls.quiet_of (HML.out _ (HS1.out.drewN _))) | (go_at_call 39; with_reducible exact Calls.quiet_of (HMY.out _ (HR1.out.drewN _))))
    go_wp2_with fail
    go_ret
    exact ⟨rfl, _, by rw [HW.out]; exact drewN2 _ _ _⟩
end Go.Proofs.Ytagnlbpndldfeaa.SPlaysC
