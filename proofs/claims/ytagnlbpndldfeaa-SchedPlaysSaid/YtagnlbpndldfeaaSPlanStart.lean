/- What the methods Window and Start of a frame table come to: the walks. -/
import Derived.Test.YtagnlbpndldfeaaSPlanAt
namespace Go.Proofs.Ytagnlbpndldfeaa.SPlanStart
open Go.RowKit Go.Proofs.Ytagnlbpndldfeaa.PSchedPlays Go.Proofs.YtagnlbpndldfeaaW.PrintWords Go.Proofs.YtagnlbpndldfeaaW.PrintLast Go.Proofs.YtagnlbpndldfeaaW.PrintMore Go.Proofs.Ytagnlbpndldfeaa.Aid Go.Proofs.Ytagnlbpndldfeaa.PlanBase Go.Proofs.Ytagnlbpndldfeaa.SPlanAt

set_option maxHeartbeats 1600000 in
set_option maxRecDepth 100000 in
theorem window_in (g : Nat) (M G : Int) (i : Nat) (l : List S45) (w : World) (hP : Aside0 (Plan 90 w g M G l)) (hi : i < l.length) :
    Calls Try.prog 28 #[.pointer (some ⟨g, 0, none⟩), .int .i64 i] w fun e w' => e = .returned (.tuple #[.agg #[.int .i64 (rd_T45 l (i : Int)).f0, .int .i64 (rd_T45 l (i : Int)).f1, .int .i64 (rd_T45 l (i : Int)).f2], .int .i64 0]) ∧ Below w.heap.size w w' := by
  obtain ⟨A, c, hb, hr, hc⟩ := hP.out
  have c2 : w.cell? ⟨g, 2, none⟩ = some (.slice A l.length c) := (blk_cell hb 2).trans rfl
  have hgl := blk_lt hb
  obtain ⟨ad, hA, hx0, hx1, hx2⟩ := at_T45 hr (i : Int) (by omega) (by omega)
  rw [Int.toNat_natCast] at hx0 hx1 hx2
  subst hA
  generalize (rd_T45 l (i : Int)).f0 = y0 at *
  generalize (rd_T45 l (i : Int)).f1 = y1 at *
  generalize (rd_T45 l (i : Int)).f2 = y2 at *
  clear hb hr hc
  have hbl := World.block_lt_of_cell? w _ hx0
  have hi2 : decide ((l.length : Int) ≤ (i : Int)) = false := decide_eq_false (by omega)
  have hi3 : decide (l.length ≤ i) = false := decide_eq_false (by omega)
  go_enter Try.func28, Try.ntmps28
  go_wp2_with fail
  exact bodyPost_ret (v := .tuple #[.agg #[.int .i64 y0, .int .i64 y1, .int .i64 y2], .int .i64 0]) (by simp [results, Try.results28, go_sem]) rfl ⟨rfl, below_alloc (Below.refl _ _) _⟩
set_option maxHeartbeats 1600000 in
set_option maxRecDepth 100000 in
theorem window_out (g : Nat) (M G i : Int) (l : List S45) (w : World) (hP : Aside0 (Plan 90 w g M G l)) (hi : i < 0 ∨ (l.length : Int) ≤ i) :
    Calls Try.prog 28 #[.pointer (some ⟨g, 0, none⟩), .int .i64 i] w fun e w' => e = .returned (.tuple #[.agg #[.int .i64 0, .int .i64 0, .int .i64 0], .int .i64 2]) ∧ Below w.heap.size w w' := by
  obtain ⟨A, c, hb, hr, hc⟩ := hP.out
  have c2 : w.cell? ⟨g, 2, none⟩ = some (.slice A l.length c) := (blk_cell hb 2).trans rfl
  have hgl := blk_lt hb
  clear hb hr hc
  by_cases h0 : i < 0
  · go_enter Try.func28, Try.ntmps28
    go_wp2_with fail
    exact bodyPost_ret (v := .tuple #[.agg #[.int .i64 0, .int .i64 0, .int .i64 0], .int .i64 2]) (by simp [results, Try.results28, go_sem]) rfl ⟨rfl, below_alloc (Below.refl _ _) _⟩
  · have hi2 : (l.length : Int) ≤ i := by omega
    have hi3 : decide ((l.length : Int) ≤ i) = true := decide_eq_true hi2
    go_enter Try.func28, Try.ntmps28
    go_wp2_with fail
    exact bodyPost_ret (v := .tuple #[.agg #[.int .i64 0, .int .i64 0, .int .i64 0], .int .i64 2]) (by simp [results, Try.results28, go_sem]) rfl ⟨rfl, below_alloc (Below.refl _ _) _⟩
/-- Where a window begins. -/
def startS (M : Int) (l : List S45) (major i : Int) : Int × Int :=
  if i < 0 ∨ (l.length : Int) ≤ i ∨ major < 0 ∨ 281474976710656 / M < major ∨ 281474976710656 - (rd_T45 l i).f1 < major * M then (0, 2) else (major * M + (rd_T45 l i).f1, 0)
set_option maxHeartbeats 1600000 in
set_option maxRecDepth 100000 in
theorem start_in (g : Nat) (M G major P y0 y1 y2 : Int) (i : Nat) (l : List S45) (w : World) (hP : Aside0 (Plan 90 w g M G l)) (hi : i < l.length) (M0 : 1 ≤ M) (M1 : M ≤ 16777216)
    (hy0 : Aside0 ((rd_T45 l (i : Int)).f0 = y0)) (hy1 : Aside0 ((rd_T45 l (i : Int)).f1 = y1)) (hy2 : Aside0 ((rd_T45 l (i : Int)).f2 = y2)) (b0 : 0 ≤ y1) (b1 : y1 ≤ M) (j0 : 0 ≤ major)
    (j1 : Aside0 (281474976710656 / M < major ∨ (major ≤ 281474976710656 / M ∧ major * M = P ∧ 0 ≤ P ∧ P ≤ 281474976710656))) (R : Int × Int) (hR : Aside0 (R = if 281474976710656 / M < major ∨ 281474976710656 - y1 < P then (0, 2) else (P + y1, 0))) :
    Calls Try.prog 27 #[.pointer (some ⟨g, 0, none⟩), .int .i64 major, .int .i64 i] w fun e w' => e = .returned (.tuple #[.int .i64 R.1, .int .i64 R.2]) ∧ Below w.heap.size w w' := by
  obtain ⟨A, c, hb, hr, hc⟩ := hP.out
  have hgl := blk_lt hb
  have C0 : Aside0 (w.cell? ⟨g, 0, none⟩ = some (.int .i64 M)) := ⟨(blk_cell hb 0).trans rfl⟩
  clear hb hr hc
  go_enter Try.func27, Try.ntmps27
  go_wp2_with fail
  refine (window_in g M G i l w hP hi).mono ?_
  rintro e w1 ⟨rfl, hB⟩
  rw [hy0.out, hy1.out, hy2.out]
  have HB := Aside0.mk hB
  have c0 := (hB.cell (p := ⟨g, 0, none⟩) hgl).trans C0.out
  have hgl1 : g < w1.heap.size := Nat.lt_of_lt_of_le hgl hB.size
  clear hB
  have f0 : decide (major < 0) = false := decide_eq_false (by omega)
  have m0 : 0 ≤ 281474976710656 / M := Int.ediv_nonneg (by omega) (by omega)
  have m1 : 281474976710656 / M ≤ 281474976710656 := Int.ediv_le_self _ (by omega)
  rcases j1.out with jj | ⟨ja, jb, jc, jd⟩
  · have f1 := decide_eq_true jj
    have HR2 : Aside0 (R = (0, 2)) := ⟨by rw [hR.out, if_pos (.inl jj)]⟩
    clear jj
    go_wp2_with fail
    go_quiet (fail)
    go_wp2_with fail
    go_ret2
    exact ⟨by rw [HR2.out]; rfl, by repeat (first | exact HB.out | apply below_alloc | apply pw_below_drewN | apply below_drew)⟩
  · have f1 : decide (281474976710656 / M < major) = false := decide_eq_false (by omega)
    by_cases hs : 281474976710656 - y1 < P
    · have HR2 : Aside0 (R = (0, 2)) := ⟨by rw [hR.out, if_pos (.inr hs)]⟩
      have f2 : decide (281474976710656 - y1 < major * M) = true := decide_eq_true (by omega)
      have p0 : 0 ≤ major * M := by omega
      have p1 : major * M ≤ 281474976710656 := by omega
      have JB := Aside0.mk jb
      clear jb
      go_wp2_with fail
      go_quiet (fail)
      go_wp2_with fail
      go_ret2
      exact ⟨by rw [HR2.out]; rfl, by repeat (first | exact HB.out | apply below_alloc | apply pw_below_drewN | apply below_drew)⟩
    · have HR2 : Aside0 (R = (P + y1, 0)) := ⟨by rw [hR.out, if_neg (by omega)]⟩
      have f2 : decide (281474976710656 - y1 < major * M) = false := decide_eq_false (by omega)
      have p0 : 0 ≤ major * M := by omega
      have p1 : major * M ≤ 281474976710656 := by omega
      have JB := Aside0.mk jb
      clear jb
      go_wp2_with fail
      go_quiet (fail)
      go_wp2_with fail
      go_quiet (fail)
      go_wp2_with fail
      go_ret2
      exact ⟨by rw [HR2.out, ← JB.out]; rfl, by repeat (first | exact HB.out | apply below_alloc | apply pw_below_drewN | apply below_drew)⟩
set_option maxHeartbeats 1600000 in
set_option maxRecDepth 100000 in
theorem start_out (g : Nat) (M G major i : Int) (l : List S45) (w : World) (hP : Aside0 (Plan 90 w g M G l)) (hi : i < 0 ∨ (l.length : Int) ≤ i) :
    Calls Try.prog 27 #[.pointer (some ⟨g, 0, none⟩), .int .i64 major, .int .i64 i] w fun e w' => e = .returned (.tuple #[.int .i64 0, .int .i64 2]) ∧ Below w.heap.size w w' := by
  go_enter Try.func27, Try.ntmps27
  go_wp2_with fail
  refine (window_out g M G i l w hP hi).mono ?_
  rintro e w1 ⟨rfl, hB⟩
  have HB := Aside0.mk hB
  clear hB
  go_wp2_with fail
  go_quiet (fail)
  go_wp2_with fail
  go_ret2
  exact ⟨rfl, by repeat (first | exact HB.out | apply below_alloc | apply pw_below_drewN | apply below_drew)⟩
set_option maxHeartbeats 1600000 in
set_option maxRecDepth 100000 in
theorem start_neg (g : Nat) (M G major : Int) (i : Nat) (l : List S45) (w : World) (hP : Aside0 (Plan 90 w g M G l)) (hi : i < l.length) (hj : major < 0) :
    Calls Try.prog 27 #[.pointer (some ⟨g, 0, none⟩), .int .i64 major, .int .i64 i] w fun e w' => e = .returned (.tuple #[.int .i64 0, .int .i64 2]) ∧ Below w.heap.size w w' := by
  have f0 : decide (major < 0) = true := decide_eq_true hj
  go_enter Try.func27, Try.ntmps27
  go_wp2_with fail
  refine (window_in g M G i l w hP hi).mono ?_
  rintro e w1 ⟨rfl, hB⟩
  have HB := Aside0.mk hB
  clear hB
  go_wp2_with fail
  go_quiet (fail)
  go_wp2_with fail
  go_ret2
  exact ⟨rfl, by repeat (first | exact HB.out | apply below_alloc | apply pw_below_drewN | apply below_drew)⟩
set_option maxHeartbeats 1600000 in
set_option maxRecDepth 100000 in
theorem rstart_out (g : Nat) (M G major i : Int) (l : List S45) (w : World) (hP : Aside0 (Plan 87 w g M G l)) (hi : i < 0 ∨ (l.length : Int) ≤ i ∨ major < 0) :
    Calls Try.prog 38 #[.pointer (some ⟨g, 0, none⟩), .int .i64 major, .int .i64 i] w fun e w' => e = .returned (.tuple #[.int .i64 0, .int .i64 2]) ∧ Below w.heap.size w w' := by
  obtain ⟨A, c, hb, hr, hc⟩ := hP.out
  have c2 : w.cell? ⟨g, 2, none⟩ = some (.slice A l.length c) := (blk_cell hb 2).trans rfl
  clear hb hr hc
  by_cases h1 : i < 0
  · have f1 : decide (i < 0) = true := decide_eq_true h1
    go_enter Try.func38, Try.ntmps38
    go_wp2_with fail
    go_quiet (fail)
    go_wp2_with fail
    go_ret2
    exact ⟨rfl, by repeat (first | exact Below.refl _ _ | apply pw_below_drewN)⟩
  · have f1 : decide (i < 0) = false := decide_eq_false h1
    by_cases h2 : (l.length : Int) ≤ i
    · have f2 : decide ((l.length : Int) ≤ i) = true := decide_eq_true h2
      go_enter Try.func38, Try.ntmps38
      go_wp2_with fail
      go_quiet (fail)
      go_wp2_with fail
      go_ret2
      exact ⟨rfl, by repeat (first | exact Below.refl _ _ | apply pw_below_drewN)⟩
    · have f2 : decide ((l.length : Int) ≤ i) = false := decide_eq_false h2
      have f3 : decide (major < 0) = true := decide_eq_true (by omega)
      go_enter Try.func38, Try.ntmps38
      go_wp2_with fail
      go_quiet (fail)
      go_wp2_with fail
      go_ret2
      exact ⟨rfl, by repeat (first | exact Below.refl _ _ | apply pw_below_drewN)⟩
set_option maxHeartbeats 1600000 in
set_option maxRecDepth 100000 in
theorem rstart_in (g : Nat) (M G major P y1 : Int) (i : Nat) (l : List S45) (w : World) (hP : Aside0 (Plan 87 w g M G l)) (hi : i < l.length) (M0 : 1 ≤ M) (M1 : M ≤ 16777216)
    (hy1 : Aside0 ((rd_T45 l (i : Int)).f1 = y1)) (b0 : 0 ≤ y1) (b1 : y1 ≤ M) (j0 : 0 ≤ major)
    (j1 : Aside0 (281474976710656 / M < major ∨ (major ≤ 281474976710656 / M ∧ major * M = P ∧ 0 ≤ P ∧ P ≤ 281474976710656))) (R : Int × Int) (hR : Aside0 (R = if 281474976710656 / M < major ∨ 281474976710656 - y1 < P then (0, 2) else (P + y1, 0))) :
    Calls Try.prog 38 #[.pointer (some ⟨g, 0, none⟩), .int .i64 major, .int .i64 i] w fun e w' => e = .returned (.tuple #[.int .i64 R.1, .int .i64 R.2]) ∧ Below w.heap.size w w' := by
  obtain ⟨A, c, hb, hr, hc⟩ := hP.out
  have hgl := blk_lt hb
  have C0 : Aside0 (w.cell? ⟨g, 0, none⟩ = some (.int .i64 M)) := ⟨(blk_cell hb 0).trans rfl⟩
  have c0 : w.cell? ⟨g, 0, none⟩ = some (.int .i64 M) := C0.out
  have c2 : w.cell? ⟨g, 2, none⟩ = some (.slice A l.length c) := (blk_cell hb 2).trans rfl
  obtain ⟨ad, hA, hx0, hx1, hx2⟩ := at_T45 hr (i : Int) (by omega) (by omega)
  rw [Int.toNat_natCast] at hx0 hx1 hx2
  rw [hy1.out] at hx1
  subst hA
  have hi2 : decide ((l.length : Int) ≤ (i : Int)) = false := decide_eq_false (by omega)
  have hi3 : decide (l.length ≤ i) = false := decide_eq_false (by omega)
  have HB := Aside0.mk (Below.refl w.heap.size w)
  clear hb hr hc hx0 hx2
  have fi : decide ((i : Int) < 0) = false := decide_eq_false (by omega)
  have fm : decide (M = 0) = false := decide_eq_false (by omega)
  go_enter Try.func38, Try.ntmps38
  have f0 : decide (major < 0) = false := decide_eq_false (by omega)
  have m0 : 0 ≤ 281474976710656 / M := Int.ediv_nonneg (by omega) (by omega)
  have m1 : 281474976710656 / M ≤ 281474976710656 := Int.ediv_le_self _ (by omega)
  rcases j1.out with jj | ⟨ja, jb, jc, jd⟩
  · have f1 := decide_eq_true jj
    have HR2 : Aside0 (R = (0, 2)) := ⟨by rw [hR.out, if_pos (.inl jj)]⟩
    clear jj
    go_wp2_with fail
    go_quiet (fail)
    go_wp2_with fail
    go_ret2
    exact ⟨by rw [HR2.out]; rfl, by repeat (first | exact HB.out | apply below_alloc | apply pw_below_drewN | apply below_drew)⟩
  · have f1 : decide (281474976710656 / M < major) = false := decide_eq_false (by omega)
    by_cases hs : 281474976710656 - y1 < P
    · have HR2 : Aside0 (R = (0, 2)) := ⟨by rw [hR.out, if_pos (.inr hs)]⟩
      have f2 : decide (281474976710656 - y1 < major * M) = true := decide_eq_true (by omega)
      have p0 : 0 ≤ major * M := by omega
      have p1 : major * M ≤ 281474976710656 := by omega
      have JB := Aside0.mk jb
      clear jb
      go_wp2_with fail
      go_quiet (fail)
      go_wp2_with fail
      go_ret2
      exact ⟨by rw [HR2.out]; rfl, by repeat (first | exact HB.out | apply below_alloc | apply pw_below_drewN | apply below_drew)⟩
    · have HR2 : Aside0 (R = (P + y1, 0)) := ⟨by rw [hR.out, if_neg (by omega)]⟩
      have f2 : decide (281474976710656 - y1 < major * M) = false := decide_eq_false (by omega)
      have p0 : 0 ≤ major * M := by omega
      have p1 : major * M ≤ 281474976710656 := by omega
      have JB := Aside0.mk jb
      clear jb
      go_wp2_with fail
      go_quiet (fail)
      go_wp2_with fail
      go_quiet (fail)
      go_wp2_with fail
      go_ret2
      exact ⟨by rw [HR2.out, ← JB.out]; rfl, by repeat (first | exact HB.out | apply below_alloc | apply pw_below_drewN | apply below_drew)⟩
end Go.Proofs.Ytagnlbpndldfeaa.SPlanStart
