/- What Budget, Major and Windows of a frame table come to: the walks. -/
import Derived.Test.YtagnlbpndldfeaaSPlanCalls
namespace Go.Proofs.Ytagnlbpndldfeaa.SPlanBudget
open Go.RowKit Go.Proofs.Ytagnlbpndldfeaa.PSchedPlays Go.Proofs.YtagnlbpndldfeaaW.PrintWords Go.Proofs.YtagnlbpndldfeaaW.PrintLast Go.Proofs.YtagnlbpndldfeaaW.PrintMore Go.Proofs.Ytagnlbpndldfeaa.Aid Go.Proofs.Ytagnlbpndldfeaa.PlanBase Go.Proofs.Ytagnlbpndldfeaa.SPlanAt Go.Proofs.Ytagnlbpndldfeaa.SPlanStart Go.Proofs.Ytagnlbpndldfeaa.SPlanCalls
attribute [local go_sem] max2_int max_two

theorem eqW (d : Nat) (w : World) (x0 y0 : Int) (x1 y1 : Int) (x2 y2 : Int) :
    (Op.equalIn (d + 2) 45 (.agg #[.int .i64 x0, .int .i64 x1, .int .i64 x2]) (.agg #[.int .i64 y0, .int .i64 y1, .int .i64 y2])).run Try.prog w = .ok (x0 == y0 && (x1 == y1 && (x2 == y2))) w := by
  refine eqA_of Try.underlying45 (by kernel_rfl) ?_
  refine eqf_cons (by rfl) (by go_simp; rfl) (by go_simp; rfl) (by go_simp) ?_
  refine eqf_cons (by rfl) (by go_simp; rfl) (by go_simp; rfl) (by go_simp) ?_
  exact eqf_last (by rfl) (by go_simp; rfl) (by go_simp; rfl) (by go_simp)
attribute [local go_sem high] eqW
def budget (G : Int) (l : List S45) (i : Int) : Int := if i < 0 ∨ (l.length : Int) ≤ i then 0 else max 0 ((rd_T45 l i).f2 - 40 - G)
set_option maxHeartbeats 1600000 in
set_option maxRecDepth 100000 in
theorem budget_in (g : Nat) (M G y0 y1 y2 : Int) (i : Nat) (l : List S45) (w : World) (hP : Aside0 (Plan 90 w g M G l)) (hi : i < l.length) (G0 : 0 ≤ G) (G1 : G ≤ 16777216)
    (hy0 : Aside0 ((rd_T45 l (i : Int)).f0 = y0)) (hy1 : Aside0 ((rd_T45 l (i : Int)).f1 = y1)) (hy2 : Aside0 ((rd_T45 l (i : Int)).f2 = y2)) (b0 : 1 ≤ y2) (b1 : y2 ≤ 16777216) :
    Calls Try.prog 31 #[.pointer (some ⟨g, 0, none⟩), .int .i64 i] w fun e w' => e = .returned (.int .i64 (max 0 (y2 - 40 - G))) ∧ Below w.heap.size w w' := by
  obtain ⟨A, c, hb, hr, hc⟩ := hP.out
  have hgl := blk_lt hb
  have C1 : Aside0 (w.cell? ⟨g, 1, none⟩ = some (.int .i64 G)) := ⟨(blk_cell hb 1).trans rfl⟩
  clear hb hr hc
  go_enter Try.func31, Try.ntmps31
  go_wp2_with fail
  refine (window_in g M G i l w hP hi).mono ?_
  rintro e w1 ⟨rfl, hB⟩
  rw [hy0.out, hy1.out, hy2.out]
  have HB := Aside0.mk hB
  have c1 := (hB.cell (p := ⟨g, 1, none⟩) hgl).trans C1.out
  have hgl1 : g < w1.heap.size := Nat.lt_of_lt_of_le hgl hB.size
  clear hB
  have f0 : (y2 == 0) = false := beq_eq_false_iff_ne.2 (by omega)
  have f1 : (y0 == 0 && (y1 == 0 && y2 == 0)) = false := by rw [f0]; simp
  have n1 : g ≠ w1.heap.size := by omega
  go_wp2_with fail
  go_quiet (fail)
  go_wp2_with fail
  all_goals
    go_ret
    exact ⟨by first | (rw [show max 0 (y2 - 40 - G) = 0 by omega]; rfl) | (rw [show max 0 (y2 - 40 - G) = y2 - 40 - G by omega]; rfl), by repeat (first | exact HB.out | apply below_alloc | apply pw_below_drewN | apply below_drew)⟩
set_option maxHeartbeats 1600000 in
set_option maxRecDepth 100000 in
theorem budget_out (g : Nat) (M G i : Int) (l : List S45) (w : World) (hP : Aside0 (Plan 90 w g M G l)) (hi : i < 0 ∨ (l.length : Int) ≤ i) :
    Calls Try.prog 31 #[.pointer (some ⟨g, 0, none⟩), .int .i64 i] w fun e w' => e = .returned (.int .i64 0) ∧ Below w.heap.size w w' := by
  go_enter Try.func31, Try.ntmps31
  go_wp2_with fail
  refine (window_out g M G i l w hP hi).mono ?_
  rintro e w1 ⟨rfl, hB⟩
  have HB := Aside0.mk hB
  clear hB
  go_wp2_with fail
  go_ret
  exact ⟨rfl, by repeat (first | exact HB.out | apply below_alloc | apply pw_below_drewN | apply below_drew)⟩
set_option maxHeartbeats 1600000 in
set_option maxRecDepth 100000 in
theorem rbudget_out (g : Nat) (M G i : Int) (l : List S45) (w : World) (hP : Aside0 (Plan 87 w g M G l)) (hi : i < 0 ∨ (l.length : Int) ≤ i) :
    Calls Try.prog 46 #[.pointer (some ⟨g, 0, none⟩), .int .i64 i] w fun e w' => e = .returned (.int .i64 0) ∧ Below w.heap.size w w' := by
  obtain ⟨A, c, hb, hr, hc⟩ := hP.out
  have c2 : w.cell? ⟨g, 2, none⟩ = some (.slice A l.length c) := (blk_cell hb 2).trans rfl
  clear hb hr hc
  by_cases h1 : i < 0
  · go_enter Try.func46, Try.ntmps46
    go_wp2_with fail
    go_ret
    exact ⟨rfl, Below.refl _ _⟩
  · have f2 : decide ((l.length : Int) ≤ i) = true := decide_eq_true (by omega)
    go_enter Try.func46, Try.ntmps46
    go_wp2_with fail
    go_ret
    exact ⟨rfl, Below.refl _ _⟩
set_option maxHeartbeats 1600000 in
set_option maxRecDepth 100000 in
theorem rbudget_in (g : Nat) (M G y2 : Int) (i : Nat) (l : List S45) (w : World) (hP : Aside0 (Plan 87 w g M G l)) (hi : i < l.length) (G0 : 0 ≤ G) (G1 : G ≤ 16777216)
    (hy2 : Aside0 ((rd_T45 l (i : Int)).f2 = y2)) (b0 : 1 ≤ y2) (b1 : y2 ≤ 16777216) :
    Calls Try.prog 46 #[.pointer (some ⟨g, 0, none⟩), .int .i64 i] w fun e w' => e = .returned (.int .i64 (max 0 (y2 - 40 - G))) ∧ Below w.heap.size w w' := by
  obtain ⟨A, c, hb, hr, hc⟩ := hP.out
  have hgl := blk_lt hb
  have c1 : w.cell? ⟨g, 1, none⟩ = some (.int .i64 G) := (blk_cell hb 1).trans rfl
  have c2 : w.cell? ⟨g, 2, none⟩ = some (.slice A l.length c) := (blk_cell hb 2).trans rfl
  obtain ⟨ad, hA, hx0, hx1, hx2⟩ := at_T45 hr (i : Int) (by omega) (by omega)
  rw [Int.toNat_natCast] at hx0 hx1 hx2
  rw [hy2.out] at hx2
  subst hA
  have fi : decide ((i : Int) < 0) = false := decide_eq_false (by omega)
  have hi2 : decide ((l.length : Int) ≤ (i : Int)) = false := decide_eq_false (by omega)
  have hi3 : decide (l.length ≤ i) = false := decide_eq_false (by omega)
  have HB := Aside0.mk (Below.refl w.heap.size w)
  clear hb hr hc hx0 hx1
  go_enter Try.func46, Try.ntmps46
  go_wp2_with fail
  go_quiet (fail)
  go_wp2_with fail
  all_goals
    go_ret
    exact ⟨by first | (rw [show max 0 (y2 - 40 - G) = 0 by omega]; rfl) | (rw [show max 0 (y2 - 40 - G) = y2 - 40 - G by omega]; rfl), by repeat (first | exact HB.out | apply below_alloc | apply pw_below_drewN | apply below_drew)⟩
theorem new_G {M G : Int} {l : List S45} (h : newE M G l = 0) : 0 ≤ G ∧ G ≤ 16777216 := by
  unfold newE at h
  split at h
  · simp at h
  · omega
theorem budget_calls (g : Nat) (M G i : Int) (l : List S45) (w : World) (hP : Plan 90 w g M G l) (hF : Fit M l) (G0 : 0 ≤ G) (G1 : G ≤ 16777216) : Calls Try.prog 31 #[.pointer (some ⟨g, 0, none⟩), .int .i64 i] w fun e w' => e = .returned (.int .i64 (budget G l i)) ∧ Below w.heap.size w w' := by
  unfold budget
  by_cases h : i < 0 ∨ (l.length : Int) ≤ i
  · rw [if_pos h]
    exact budget_out g M G i l w ⟨hP⟩ h
  · rw [if_neg h]
    obtain ⟨n, rfl⟩ : ∃ n : Nat, i = n := ⟨i.toNat, by omega⟩
    obtain ⟨u0, u1, v0, v1⟩ := hF.2.2.2 _ (rd_mem l n (by omega))
    have := hF.2.1
    exact budget_in g M G _ _ _ n l w ⟨hP⟩ (by omega) G0 G1 ⟨rfl⟩ ⟨rfl⟩ ⟨rfl⟩ v0 (by omega)
theorem rbudget_calls (g : Nat) (M G i : Int) (l : List S45) (w : World) (hP : Plan 87 w g M G l) (hF : Fit M l) (G0 : 0 ≤ G) (G1 : G ≤ 16777216) : Calls Try.prog 46 #[.pointer (some ⟨g, 0, none⟩), .int .i64 i] w fun e w' => e = .returned (.int .i64 (budget G l i)) ∧ Below w.heap.size w w' := by
  unfold budget
  by_cases h : i < 0 ∨ (l.length : Int) ≤ i
  · rw [if_pos h]
    exact rbudget_out g M G i l w ⟨hP⟩ h
  · rw [if_neg h]
    obtain ⟨n, rfl⟩ : ∃ n : Nat, i = n := ⟨i.toNat, by omega⟩
    obtain ⟨u0, u1, v0, v1⟩ := hF.2.2.2 _ (rd_mem l n (by omega))
    have := hF.2.1
    exact rbudget_in g M G _ n l w ⟨hP⟩ (by omega) G0 G1 ⟨rfl⟩ v0 (by omega)
end Go.Proofs.Ytagnlbpndldfeaa.SPlanBudget
