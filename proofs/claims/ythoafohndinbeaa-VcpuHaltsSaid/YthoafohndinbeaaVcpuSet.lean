/- What Set, Begin and Privileged come to. -/
import Derived.Test.YthoafohndinbeaaVcpuReg
namespace Go.Proofs.Ythoafohndinbeaa.VcpuSet
open Go.RowKit Go.Proofs.Ythoafohndinbeaa.PVcpuBack Go.Proofs.YthoafohndinbeaaW.PrintWords Go.Proofs.YthoafohndinbeaaW.PrintLast Go.Proofs.YthoafohndinbeaaW.PrintMore Go.Proofs.Ythoafohndinbeaa.Aid Go.Proofs.Ythoafohndinbeaa.VcpuBase Go.Proofs.Ythoafohndinbeaa.VcpuCheck Go.Proofs.Ythoafohndinbeaa.VcpuReg
attribute [local go_sem] get24 ge24 get25 ge25 get26 ge26 get27 ge27 get28 ge28 get29 ge29 get30 ge30 get31 ge31 get32 ge32 get33 ge33 get34 ge34 set24 set25 set26 set27 set28 set29 set30 set31 set32 set33 set34 vc_size
set_option maxHeartbeats 1600000
set_option maxRecDepth 100000
set_option linter.unusedVariables false
section
variable (c : Cx) (n v : Int) (w : World)
/-- What is put into a control register. -/
def putV (n v : Int) : Int := if n = 0 ∨ n = 1 then v % 8 else if n = 3 ∨ n = 5 then v / 4 * 4 else if n = 7 then v % 256 else v
def putC (c : Cx) (k : Nat) (x : Int) : Cx := match k with
  | 0 => { c with st := x }
  | 1 => { c with sv := x }
  | 2 => { c with ca := x }
  | 3 => { c with ep := x }
  | 4 => { c with tv := x }
  | 5 => { c with ve := x }
  | 6 => { c with sc := x }
  | 7 => { c with ma := x }
  | _ => c
theorem set_0 : Calls Try.prog 13 #[.agg (vc c), .int .i64 0, .int .u32 v] w fun e w' => e = .returned (.tuple #[.agg (vc { c with st := Go.bits .and .u32 v 7 }), .int .i64 0]) ∧ Below w.heap.size w w' := by
  go_enter Try.func13, Try.ntmps13
  go_wp2_with fail
  refine (reg_0 _ _).mono ?_
  rintro e w1 ⟨rfl, hB⟩
  have BG := Aside0.mk ((hB.block w.heap.size (by simp; omega)).trans (heap_alloc2_old w _ _))
  have BZ := Aside0.mk ((hB.block (w.heap.size + 1) (by simp)).trans (zblk w _))
  have hc := (blk_cell BG.out 25).trans (get25 c)
  have hf := blk_frozen BG.out 25
  have HB := Aside0.mk hB
  clear hB
  go_wp2_with (first | refine ld rfl _ rfl w.heap.size rfl _ (by with_reducible exact blk_put BG.out _ _ (set25 _ _)) ?_ | refine st rfl _ _ rfl (w.heap.size + 1) _ rfl rfl zc (by exact blk_far BZ.out (p := ⟨w.heap.size, 25, none⟩) (by simp) _) ?_)
  (try simp only [Exit.inBlock, Exit.then])
  refine bodyPost_ret (results_ct rfl _ _ (w.heap.size + 1) 31 (vc ({ c with st := Go.bits .and .u32 v 7 })) (0, 0) _ rfl (row_new (blk_far BZ.out (p := ⟨w.heap.size, 25, none⟩) (by simp) _) _) Try.underlying31 rfl (by kernel_rfl)) rfl ?_
  exact ⟨rfl, below_row (below_set ((below_alloc (below_alloc (Below.refl _ _) _) _).trans (HB.out.mono (by simp; omega))) (by omega)) (by omega) _⟩

theorem set_1 : Calls Try.prog 13 #[.agg (vc c), .int .i64 1, .int .u32 v] w fun e w' => e = .returned (.tuple #[.agg (vc { c with sv := Go.bits .and .u32 v 7 }), .int .i64 0]) ∧ Below w.heap.size w w' := by
  go_enter Try.func13, Try.ntmps13
  go_wp2_with fail
  refine (reg_1 _ _).mono ?_
  rintro e w1 ⟨rfl, hB⟩
  have BG := Aside0.mk ((hB.block w.heap.size (by simp; omega)).trans (heap_alloc2_old w _ _))
  have BZ := Aside0.mk ((hB.block (w.heap.size + 1) (by simp)).trans (zblk w _))
  have hc := (blk_cell BG.out 26).trans (get26 c)
  have hf := blk_frozen BG.out 26
  have HB := Aside0.mk hB
  clear hB
  go_wp2_with (first | refine ld rfl _ rfl w.heap.size rfl _ (by with_reducible exact blk_put BG.out _ _ (set26 _ _)) ?_ | refine st rfl _ _ rfl (w.heap.size + 1) _ rfl rfl zc (by exact blk_far BZ.out (p := ⟨w.heap.size, 26, none⟩) (by simp) _) ?_)
  (try simp only [Exit.inBlock, Exit.then])
  refine bodyPost_ret (results_ct rfl _ _ (w.heap.size + 1) 31 (vc ({ c with sv := Go.bits .and .u32 v 7 })) (0, 0) _ rfl (row_new (blk_far BZ.out (p := ⟨w.heap.size, 26, none⟩) (by simp) _) _) Try.underlying31 rfl (by kernel_rfl)) rfl ?_
  exact ⟨rfl, below_row (below_set ((below_alloc (below_alloc (Below.refl _ _) _) _).trans (HB.out.mono (by simp; omega))) (by omega)) (by omega) _⟩

theorem set_2 : Calls Try.prog 13 #[.agg (vc c), .int .i64 2, .int .u32 v] w fun e w' => e = .returned (.tuple #[.agg (vc { c with ca := v }), .int .i64 0]) ∧ Below w.heap.size w w' := by
  go_enter Try.func13, Try.ntmps13
  go_wp2_with fail
  refine (reg_2 _ _).mono ?_
  rintro e w1 ⟨rfl, hB⟩
  have BG := Aside0.mk ((hB.block w.heap.size (by simp; omega)).trans (heap_alloc2_old w _ _))
  have BZ := Aside0.mk ((hB.block (w.heap.size + 1) (by simp)).trans (zblk w _))
  have hc := (blk_cell BG.out 27).trans (get27 c)
  have hf := blk_frozen BG.out 27
  have HB := Aside0.mk hB
  clear hB
  go_wp2_with (first | refine ld rfl _ rfl w.heap.size rfl _ (by with_reducible exact blk_put BG.out _ _ (set27 _ _)) ?_ | refine st rfl _ _ rfl (w.heap.size + 1) _ rfl rfl zc (by exact blk_far BZ.out (p := ⟨w.heap.size, 27, none⟩) (by simp) _) ?_)
  (try simp only [Exit.inBlock, Exit.then])
  refine bodyPost_ret (results_ct rfl _ _ (w.heap.size + 1) 31 (vc ({ c with ca := v })) (0, 0) _ rfl (row_new (blk_far BZ.out (p := ⟨w.heap.size, 27, none⟩) (by simp) _) _) Try.underlying31 rfl (by kernel_rfl)) rfl ?_
  exact ⟨rfl, below_row (below_set ((below_alloc (below_alloc (Below.refl _ _) _) _).trans (HB.out.mono (by simp; omega))) (by omega)) (by omega) _⟩

theorem set_3 : Calls Try.prog 13 #[.agg (vc c), .int .i64 3, .int .u32 v] w fun e w' => e = .returned (.tuple #[.agg (vc { c with ep := Go.bits .andNot .u32 v 3 }), .int .i64 0]) ∧ Below w.heap.size w w' := by
  go_enter Try.func13, Try.ntmps13
  go_wp2_with fail
  refine (reg_3 _ _).mono ?_
  rintro e w1 ⟨rfl, hB⟩
  have BG := Aside0.mk ((hB.block w.heap.size (by simp; omega)).trans (heap_alloc2_old w _ _))
  have BZ := Aside0.mk ((hB.block (w.heap.size + 1) (by simp)).trans (zblk w _))
  have hc := (blk_cell BG.out 28).trans (get28 c)
  have hf := blk_frozen BG.out 28
  have HB := Aside0.mk hB
  clear hB
  go_wp2_with (first | refine ld rfl _ rfl w.heap.size rfl _ (by with_reducible exact blk_put BG.out _ _ (set28 _ _)) ?_ | refine st rfl _ _ rfl (w.heap.size + 1) _ rfl rfl zc (by exact blk_far BZ.out (p := ⟨w.heap.size, 28, none⟩) (by simp) _) ?_)
  (try simp only [Exit.inBlock, Exit.then])
  refine bodyPost_ret (results_ct rfl _ _ (w.heap.size + 1) 31 (vc ({ c with ep := Go.bits .andNot .u32 v 3 })) (0, 0) _ rfl (row_new (blk_far BZ.out (p := ⟨w.heap.size, 28, none⟩) (by simp) _) _) Try.underlying31 rfl (by kernel_rfl)) rfl ?_
  exact ⟨rfl, below_row (below_set ((below_alloc (below_alloc (Below.refl _ _) _) _).trans (HB.out.mono (by simp; omega))) (by omega)) (by omega) _⟩

theorem set_4 : Calls Try.prog 13 #[.agg (vc c), .int .i64 4, .int .u32 v] w fun e w' => e = .returned (.tuple #[.agg (vc { c with tv := v }), .int .i64 0]) ∧ Below w.heap.size w w' := by
  go_enter Try.func13, Try.ntmps13
  go_wp2_with fail
  refine (reg_4 _ _).mono ?_
  rintro e w1 ⟨rfl, hB⟩
  have BG := Aside0.mk ((hB.block w.heap.size (by simp; omega)).trans (heap_alloc2_old w _ _))
  have BZ := Aside0.mk ((hB.block (w.heap.size + 1) (by simp)).trans (zblk w _))
  have hc := (blk_cell BG.out 29).trans (get29 c)
  have hf := blk_frozen BG.out 29
  have HB := Aside0.mk hB
  clear hB
  go_wp2_with (first | refine ld rfl _ rfl w.heap.size rfl _ (by with_reducible exact blk_put BG.out _ _ (set29 _ _)) ?_ | refine st rfl _ _ rfl (w.heap.size + 1) _ rfl rfl zc (by exact blk_far BZ.out (p := ⟨w.heap.size, 29, none⟩) (by simp) _) ?_)
  (try simp only [Exit.inBlock, Exit.then])
  refine bodyPost_ret (results_ct rfl _ _ (w.heap.size + 1) 31 (vc ({ c with tv := v })) (0, 0) _ rfl (row_new (blk_far BZ.out (p := ⟨w.heap.size, 29, none⟩) (by simp) _) _) Try.underlying31 rfl (by kernel_rfl)) rfl ?_
  exact ⟨rfl, below_row (below_set ((below_alloc (below_alloc (Below.refl _ _) _) _).trans (HB.out.mono (by simp; omega))) (by omega)) (by omega) _⟩

theorem set_5 : Calls Try.prog 13 #[.agg (vc c), .int .i64 5, .int .u32 v] w fun e w' => e = .returned (.tuple #[.agg (vc { c with ve := Go.bits .andNot .u32 v 3 }), .int .i64 0]) ∧ Below w.heap.size w w' := by
  go_enter Try.func13, Try.ntmps13
  go_wp2_with fail
  refine (reg_5 _ _).mono ?_
  rintro e w1 ⟨rfl, hB⟩
  have BG := Aside0.mk ((hB.block w.heap.size (by simp; omega)).trans (heap_alloc2_old w _ _))
  have BZ := Aside0.mk ((hB.block (w.heap.size + 1) (by simp)).trans (zblk w _))
  have hc := (blk_cell BG.out 30).trans (get30 c)
  have hf := blk_frozen BG.out 30
  have HB := Aside0.mk hB
  clear hB
  go_wp2_with (first | refine ld rfl _ rfl w.heap.size rfl _ (by with_reducible exact blk_put BG.out _ _ (set30 _ _)) ?_ | refine st rfl _ _ rfl (w.heap.size + 1) _ rfl rfl zc (by exact blk_far BZ.out (p := ⟨w.heap.size, 30, none⟩) (by simp) _) ?_)
  (try simp only [Exit.inBlock, Exit.then])
  refine bodyPost_ret (results_ct rfl _ _ (w.heap.size + 1) 31 (vc ({ c with ve := Go.bits .andNot .u32 v 3 })) (0, 0) _ rfl (row_new (blk_far BZ.out (p := ⟨w.heap.size, 30, none⟩) (by simp) _) _) Try.underlying31 rfl (by kernel_rfl)) rfl ?_
  exact ⟨rfl, below_row (below_set ((below_alloc (below_alloc (Below.refl _ _) _) _).trans (HB.out.mono (by simp; omega))) (by omega)) (by omega) _⟩

theorem set_6 : Calls Try.prog 13 #[.agg (vc c), .int .i64 6, .int .u32 v] w fun e w' => e = .returned (.tuple #[.agg (vc { c with sc := v }), .int .i64 0]) ∧ Below w.heap.size w w' := by
  go_enter Try.func13, Try.ntmps13
  go_wp2_with fail
  refine (reg_6 _ _).mono ?_
  rintro e w1 ⟨rfl, hB⟩
  have BG := Aside0.mk ((hB.block w.heap.size (by simp; omega)).trans (heap_alloc2_old w _ _))
  have BZ := Aside0.mk ((hB.block (w.heap.size + 1) (by simp)).trans (zblk w _))
  have hc := (blk_cell BG.out 31).trans (get31 c)
  have hf := blk_frozen BG.out 31
  have HB := Aside0.mk hB
  clear hB
  go_wp2_with (first | refine ld rfl _ rfl w.heap.size rfl _ (by with_reducible exact blk_put BG.out _ _ (set31 _ _)) ?_ | refine st rfl _ _ rfl (w.heap.size + 1) _ rfl rfl zc (by exact blk_far BZ.out (p := ⟨w.heap.size, 31, none⟩) (by simp) _) ?_)
  (try simp only [Exit.inBlock, Exit.then])
  refine bodyPost_ret (results_ct rfl _ _ (w.heap.size + 1) 31 (vc ({ c with sc := v })) (0, 0) _ rfl (row_new (blk_far BZ.out (p := ⟨w.heap.size, 31, none⟩) (by simp) _) _) Try.underlying31 rfl (by kernel_rfl)) rfl ?_
  exact ⟨rfl, below_row (below_set ((below_alloc (below_alloc (Below.refl _ _) _) _).trans (HB.out.mono (by simp; omega))) (by omega)) (by omega) _⟩

theorem set_7 : Calls Try.prog 13 #[.agg (vc c), .int .i64 7, .int .u32 v] w fun e w' => e = .returned (.tuple #[.agg (vc { c with ma := Go.bits .and .u32 v 255 }), .int .i64 0]) ∧ Below w.heap.size w w' := by
  go_enter Try.func13, Try.ntmps13
  go_wp2_with fail
  refine (reg_7 _ _).mono ?_
  rintro e w1 ⟨rfl, hB⟩
  have BG := Aside0.mk ((hB.block w.heap.size (by simp; omega)).trans (heap_alloc2_old w _ _))
  have BZ := Aside0.mk ((hB.block (w.heap.size + 1) (by simp)).trans (zblk w _))
  have hc := (blk_cell BG.out 32).trans (get32 c)
  have hf := blk_frozen BG.out 32
  have HB := Aside0.mk hB
  clear hB
  go_wp2_with (first | refine ld rfl _ rfl w.heap.size rfl _ (by with_reducible exact blk_put BG.out _ _ (set32 _ _)) ?_ | refine st rfl _ _ rfl (w.heap.size + 1) _ rfl rfl zc (by exact blk_far BZ.out (p := ⟨w.heap.size, 32, none⟩) (by simp) _) ?_)
  (try simp only [Exit.inBlock, Exit.then])
  refine bodyPost_ret (results_ct rfl _ _ (w.heap.size + 1) 31 (vc ({ c with ma := Go.bits .and .u32 v 255 })) (0, 0) _ rfl (row_new (blk_far BZ.out (p := ⟨w.heap.size, 32, none⟩) (by simp) _) _) Try.underlying31 rfl (by kernel_rfl)) rfl ?_
  exact ⟨rfl, below_row (below_set ((below_alloc (below_alloc (Below.refl _ _) _) _).trans (HB.out.mono (by simp; omega))) (by omega)) (by omega) _⟩

theorem set_none (h : n < 0 ∨ 8 ≤ n) : Calls Try.prog 13 #[.agg (vc c), .int .i64 n, .int .u32 v] w fun e w' => e = .returned (.tuple #[.agg (vc zc), .int .i64 2]) ∧ Below w.heap.size w w' := by
  go_enter Try.func13, Try.ntmps13
  go_wp2_with fail
  refine (reg_none _ _ _ (by omega)).mono ?_
  rintro e w1 ⟨rfl, hB⟩
  have BZ := Aside0.mk ((hB.block (w.heap.size + 1) (by simp)).trans (zblk w _))
  have HB := Aside0.mk hB
  clear hB
  go_wp2_with (first | refine st rfl _ _ rfl (w.heap.size + 1) zc rfl rfl zc (by exact BZ.out) ?_)
  refine bodyPost_ret (results_ct rfl _ _ (w.heap.size + 1) 31 (vc zc) (0, 0) _ rfl (row_new BZ.out _) Try.underlying31 rfl (by kernel_rfl)) rfl ?_
  exact ⟨rfl, below_row ((below_alloc (below_alloc (Below.refl _ _) _) _).trans (HB.out.mono (by simp; omega))) (by omega) _⟩

theorem rset_0 (v0 : 0 ≤ v) (v1 : v < 4294967296) : Calls Try.prog 14 #[.agg (vc c), .int .i64 0, .int .u32 v] w fun e w' => e = .returned (.tuple #[.agg (vc { c with st := v % 8 }), .int .i64 0]) ∧ Below w.heap.size w w' := by
  go_enter Try.func14, Try.ntmps14
  go_wp2_with (first | refine ld rfl _ rfl w.heap.size rfl _ (by with_reducible first | exact heap_alloc2_old _ _ _ | exact blk_put (heap_alloc2_old _ _ _) _ _ (set25 _ _)) ?_ | refine st rfl _ _ rfl (w.heap.size + 1) _ rfl rfl zc (by exact zblk _ _) ?_)
  refine bodyPost_ret (results_ct rfl _ _ (w.heap.size + 1) 31 (vc { c with st := v % 8 }) (0, 0) _ rfl (row_new (zblk _ _) _) Try.underlying31 rfl (by kernel_rfl)) rfl ?_
  exact ⟨rfl, below_row (by repeat (first | exact Below.refl _ _ | apply below_alloc)) (by omega) _⟩

theorem rset_1 (v0 : 0 ≤ v) (v1 : v < 4294967296) : Calls Try.prog 14 #[.agg (vc c), .int .i64 1, .int .u32 v] w fun e w' => e = .returned (.tuple #[.agg (vc { c with sv := v % 8 }), .int .i64 0]) ∧ Below w.heap.size w w' := by
  go_enter Try.func14, Try.ntmps14
  go_wp2_with (first | refine ld rfl _ rfl w.heap.size rfl _ (by with_reducible first | exact heap_alloc2_old _ _ _ | exact blk_put (heap_alloc2_old _ _ _) _ _ (set26 _ _)) ?_ | refine st rfl _ _ rfl (w.heap.size + 1) _ rfl rfl zc (by exact zblk _ _) ?_)
  refine bodyPost_ret (results_ct rfl _ _ (w.heap.size + 1) 31 (vc { c with sv := v % 8 }) (0, 0) _ rfl (row_new (zblk _ _) _) Try.underlying31 rfl (by kernel_rfl)) rfl ?_
  exact ⟨rfl, below_row (by repeat (first | exact Below.refl _ _ | apply below_alloc)) (by omega) _⟩

theorem rset_2 (v0 : 0 ≤ v) (v1 : v < 4294967296) : Calls Try.prog 14 #[.agg (vc c), .int .i64 2, .int .u32 v] w fun e w' => e = .returned (.tuple #[.agg (vc { c with ca := v }), .int .i64 0]) ∧ Below w.heap.size w w' := by
  go_enter Try.func14, Try.ntmps14
  go_wp2_with (first | refine ld rfl _ rfl w.heap.size rfl _ (by with_reducible first | exact heap_alloc2_old _ _ _ | exact blk_put (heap_alloc2_old _ _ _) _ _ (set27 _ _)) ?_ | refine st rfl _ _ rfl (w.heap.size + 1) _ rfl rfl zc (by exact zblk _ _) ?_)
  refine bodyPost_ret (results_ct rfl _ _ (w.heap.size + 1) 31 (vc { c with ca := v }) (0, 0) _ rfl (row_new (zblk _ _) _) Try.underlying31 rfl (by kernel_rfl)) rfl ?_
  exact ⟨rfl, below_row (by repeat (first | exact Below.refl _ _ | apply below_alloc)) (by omega) _⟩

theorem rset_3 (v0 : 0 ≤ v) (v1 : v < 4294967296) : Calls Try.prog 14 #[.agg (vc c), .int .i64 3, .int .u32 v] w fun e w' => e = .returned (.tuple #[.agg (vc { c with ep := v / 4 * 4 }), .int .i64 0]) ∧ Below w.heap.size w w' := by
  go_enter Try.func14, Try.ntmps14
  go_wp2_with (first | refine ld rfl _ rfl w.heap.size rfl _ (by with_reducible first | exact heap_alloc2_old _ _ _ | exact blk_put (heap_alloc2_old _ _ _) _ _ (set28 _ _)) ?_ | refine st rfl _ _ rfl (w.heap.size + 1) _ rfl rfl zc (by exact zblk _ _) ?_)
  refine bodyPost_ret (results_ct rfl _ _ (w.heap.size + 1) 31 (vc { c with ep := v / 4 * 4 }) (0, 0) _ rfl (row_new (zblk _ _) _) Try.underlying31 rfl (by kernel_rfl)) rfl ?_
  exact ⟨rfl, below_row (by repeat (first | exact Below.refl _ _ | apply below_alloc)) (by omega) _⟩

theorem rset_4 (v0 : 0 ≤ v) (v1 : v < 4294967296) : Calls Try.prog 14 #[.agg (vc c), .int .i64 4, .int .u32 v] w fun e w' => e = .returned (.tuple #[.agg (vc { c with tv := v }), .int .i64 0]) ∧ Below w.heap.size w w' := by
  go_enter Try.func14, Try.ntmps14
  go_wp2_with (first | refine ld rfl _ rfl w.heap.size rfl _ (by with_reducible first | exact heap_alloc2_old _ _ _ | exact blk_put (heap_alloc2_old _ _ _) _ _ (set29 _ _)) ?_ | refine st rfl _ _ rfl (w.heap.size + 1) _ rfl rfl zc (by exact zblk _ _) ?_)
  refine bodyPost_ret (results_ct rfl _ _ (w.heap.size + 1) 31 (vc { c with tv := v }) (0, 0) _ rfl (row_new (zblk _ _) _) Try.underlying31 rfl (by kernel_rfl)) rfl ?_
  exact ⟨rfl, below_row (by repeat (first | exact Below.refl _ _ | apply below_alloc)) (by omega) _⟩

theorem rset_5 (v0 : 0 ≤ v) (v1 : v < 4294967296) : Calls Try.prog 14 #[.agg (vc c), .int .i64 5, .int .u32 v] w fun e w' => e = .returned (.tuple #[.agg (vc { c with ve := v / 4 * 4 }), .int .i64 0]) ∧ Below w.heap.size w w' := by
  go_enter Try.func14, Try.ntmps14
  go_wp2_with (first | refine ld rfl _ rfl w.heap.size rfl _ (by with_reducible first | exact heap_alloc2_old _ _ _ | exact blk_put (heap_alloc2_old _ _ _) _ _ (set30 _ _)) ?_ | refine st rfl _ _ rfl (w.heap.size + 1) _ rfl rfl zc (by exact zblk _ _) ?_)
  refine bodyPost_ret (results_ct rfl _ _ (w.heap.size + 1) 31 (vc { c with ve := v / 4 * 4 }) (0, 0) _ rfl (row_new (zblk _ _) _) Try.underlying31 rfl (by kernel_rfl)) rfl ?_
  exact ⟨rfl, below_row (by repeat (first | exact Below.refl _ _ | apply below_alloc)) (by omega) _⟩

theorem rset_6 (v0 : 0 ≤ v) (v1 : v < 4294967296) : Calls Try.prog 14 #[.agg (vc c), .int .i64 6, .int .u32 v] w fun e w' => e = .returned (.tuple #[.agg (vc { c with sc := v }), .int .i64 0]) ∧ Below w.heap.size w w' := by
  go_enter Try.func14, Try.ntmps14
  go_wp2_with (first | refine ld rfl _ rfl w.heap.size rfl _ (by with_reducible first | exact heap_alloc2_old _ _ _ | exact blk_put (heap_alloc2_old _ _ _) _ _ (set31 _ _)) ?_ | refine st rfl _ _ rfl (w.heap.size + 1) _ rfl rfl zc (by exact zblk _ _) ?_)
  refine bodyPost_ret (results_ct rfl _ _ (w.heap.size + 1) 31 (vc { c with sc := v }) (0, 0) _ rfl (row_new (zblk _ _) _) Try.underlying31 rfl (by kernel_rfl)) rfl ?_
  exact ⟨rfl, below_row (by repeat (first | exact Below.refl _ _ | apply below_alloc)) (by omega) _⟩

theorem rset_7 (v0 : 0 ≤ v) (v1 : v < 4294967296) : Calls Try.prog 14 #[.agg (vc c), .int .i64 7, .int .u32 v] w fun e w' => e = .returned (.tuple #[.agg (vc { c with ma := v % 256 }), .int .i64 0]) ∧ Below w.heap.size w w' := by
  go_enter Try.func14, Try.ntmps14
  go_wp2_with (first | refine ld rfl _ rfl w.heap.size rfl _ (by with_reducible first | exact heap_alloc2_old _ _ _ | exact blk_put (heap_alloc2_old _ _ _) _ _ (set32 _ _)) ?_ | refine st rfl _ _ rfl (w.heap.size + 1) _ rfl rfl zc (by exact zblk _ _) ?_)
  refine bodyPost_ret (results_ct rfl _ _ (w.heap.size + 1) 31 (vc { c with ma := v % 256 }) (0, 0) _ rfl (row_new (zblk _ _) _) Try.underlying31 rfl (by kernel_rfl)) rfl ?_
  exact ⟨rfl, below_row (by repeat (first | exact Below.refl _ _ | apply below_alloc)) (by omega) _⟩

theorem rset_none (h0 : (n == 0) = false) (h1 : (n == 1) = false) (h2 : (n == 2) = false) (h3 : (n == 3) = false) (h4 : (n == 4) = false) (h5 : (n == 5) = false) (h6 : (n == 6) = false) (h7 : (n == 7) = false) : Calls Try.prog 14 #[.agg (vc c), .int .i64 n, .int .u32 v] w fun e w' => e = .returned (.tuple #[.agg (vc zc), .int .i64 2]) ∧ Below w.heap.size w w' := by
  go_enter Try.func14, Try.ntmps14
  go_wp2_with (first | refine st rfl _ _ rfl (w.heap.size + 1) zc rfl rfl zc (by exact zblk _ _) ?_)
  (try simp only [Exit.inBlock, Exit.then])
  refine bodyPost_ret (results_ct rfl _ _ (w.heap.size + 1) 31 (vc zc) (0, 0) _ rfl (row_new (zblk _ _) _) Try.underlying31 rfl (by kernel_rfl)) rfl ?_
  exact ⟨rfl, below_row (by repeat (first | exact Below.refl _ _ | apply below_alloc)) (by omega) _⟩

/-- The context that Set makes; noughts where there is no such register. -/
def setC (c : Cx) (n v : Int) : Cx := if n < 0 ∨ 8 ≤ n then zc else putC c n.toNat (putV n v)
def setE (n : Int) : Int := if n < 0 ∨ 8 ≤ n then 2 else 0
theorem and_mod {x : Int} (h0 : 0 ≤ x) (h1 : x < 4294967296) (k : Nat) (hk : k ≤ 32) (M : Nat) (hM : M = 2 ^ k - 1) : Go.bits .and .u32 x M = x % ((2 ^ k : Nat) : Int) := by
  obtain ⟨m, rfl⟩ := Int.eq_ofNat_of_zero_le h0
  have hp : 2 ^ k ≤ 4294967296 := Nat.pow_le_pow_right (n := 2) (by decide) hk
  have hp0 : 0 < 2 ^ k := Nat.pow_pos (by decide)
  rw [u32_and_nat m M (by omega) (by omega), hM, Nat.and_two_pow_sub_one_eq_mod]
  omega
theorem and7 {x : Int} (h0 : 0 ≤ x) (h1 : x < 4294967296) : Go.bits .and .u32 x 7 = x % 8 := and_mod h0 h1 3 (by omega) 7 rfl
theorem and255 {x : Int} (h0 : 0 ≤ x) (h1 : x < 4294967296) : Go.bits .and .u32 x 255 = x % 256 := and_mod h0 h1 8 (by omega) 255 rfl
theorem not3 {x : Int} (h0 : 0 ≤ x) (h1 : x < 4294967296) : Go.bits .andNot .u32 x 3 = x / 4 * 4 := by
  obtain ⟨m, rfl⟩ := Int.eq_ofNat_of_zero_le h0
  have h := u32_andNot_nat m 3 (by omega) (by omega)
  rw [show ((3 : Nat) : Int) = 3 from rfl] at h
  rw [h, show 4294967295 - 3 = 4294967295 - (2 ^ 2 - 1) from rfl, hi_mask (by omega) (by omega)]
  omega
theorem setE_in (h : 0 ≤ n ∧ n < 8) : setE n = 0 := if_neg (by omega)
theorem setC_in (h : 0 ≤ n ∧ n < 8) : setC c n v = putC c n.toNat (putV n v) := if_neg (by omega)
theorem set_calls (v0 : 0 ≤ v) (v1 : v < 4294967296) : Calls Try.prog 13 #[.agg (vc c), .int .i64 n, .int .u32 v] w fun e w' => e = .returned (.tuple #[.agg (vc (setC c n v)), .int .i64 (setE n)]) ∧ Below w.heap.size w w' := by
  by_cases h : 0 ≤ n ∧ n < 8
  · rw [setE_in n h, setC_in c n v h]
    have a7 := and7 v0 v1
    have a255 := and255 v0 v1
    have n3 := not3 v0 v1
    rcases eight h.1 h.2 with rfl | rfl | rfl | rfl | rfl | rfl | rfl | rfl

    · have h1 := set_0 c v w
      rw [a7] at h1
      exact h1
    · have h1 := set_1 c v w
      rw [a7] at h1
      exact h1
    · have h1 := set_2 c v w
      exact h1
    · have h1 := set_3 c v w
      rw [n3] at h1
      exact h1
    · have h1 := set_4 c v w
      exact h1
    · have h1 := set_5 c v w
      rw [n3] at h1
      exact h1
    · have h1 := set_6 c v w
      exact h1
    · have h1 := set_7 c v w
      rw [a255] at h1
      exact h1
  · have e1 : setE n = 2 := if_pos (by omega)
    have e2 : setC c n v = zc := if_pos (by omega)
    rw [e1, e2]
    exact set_none c n v w (by omega)
theorem rset_calls (v0 : 0 ≤ v) (v1 : v < 4294967296) : Calls Try.prog 14 #[.agg (vc c), .int .i64 n, .int .u32 v] w fun e w' => e = .returned (.tuple #[.agg (vc (setC c n v)), .int .i64 (setE n)]) ∧ Below w.heap.size w w' := by
  by_cases h : 0 ≤ n ∧ n < 8
  · rw [setE_in n h, setC_in c n v h]
    rcases eight h.1 h.2 with rfl | rfl | rfl | rfl | rfl | rfl | rfl | rfl

    · exact rset_0 c v w v0 v1
    · exact rset_1 c v w v0 v1
    · exact rset_2 c v w v0 v1
    · exact rset_3 c v w v0 v1
    · exact rset_4 c v w v0 v1
    · exact rset_5 c v w v0 v1
    · exact rset_6 c v w v0 v1
    · exact rset_7 c v w v0 v1
  · have e1 : setE n = 2 := if_pos (by omega)
    have e2 : setC c n v = zc := if_pos (by omega)
    rw [e1, e2]
    exact rset_none c n v w (beq_eq_false_iff_ne.2 (by omega)) (beq_eq_false_iff_ne.2 (by omega)) (beq_eq_false_iff_ne.2 (by omega)) (beq_eq_false_iff_ne.2 (by omega)) (beq_eq_false_iff_ne.2 (by omega)) (beq_eq_false_iff_ne.2 (by omega)) (beq_eq_false_iff_ne.2 (by omega)) (beq_eq_false_iff_ne.2 (by omega))
/-- The context ahead of its first instruction. -/
def beginC (x : Int) : Cx := { zc with pc := x, st := 2 }
theorem begin_calls (x : Int) : Calls Try.prog 27 #[.int .u32 x] w fun e w' => e = .returned (.agg (vc (beginC x))) ∧ Below w.heap.size w w' := by
  go_enter Try.func27, Try.ntmps27
  go_wp2_with (first | refine st rfl _ _ rfl w.heap.size (beginC x) rfl rfl zc (by exact heap_alloc_new _ _) ?_)
  refine bodyPost_ret (results_cell_row rfl _ _ w.heap.size 31 (vc (beginC x)) (0, 0) _ rfl (row_new (heap_alloc_new _ _) _) Try.underlying31 rfl (by kernel_rfl)) rfl ?_
  exact ⟨rfl, below_row (below_alloc (Below.refl _ _) _) (by omega) _⟩

theorem rbegin_calls (x : Int) : Calls Try.prog 28 #[.int .u32 x] w fun e w' => e = .returned (.agg (vc (beginC x))) ∧ Below w.heap.size w w' := by
  go_enter Try.func28, Try.ntmps28
  go_wp2_with (first | refine st rfl _ _ rfl w.heap.size (beginC x) rfl rfl zc (by exact heap_alloc_new _ _) ?_)
  refine bodyPost_ret (results_cell_row rfl _ _ w.heap.size 31 (vc (beginC x)) (0, 0) _ rfl (row_new (heap_alloc_new _ _) _) Try.underlying31 rfl (by kernel_rfl)) rfl ?_
  exact ⟨rfl, below_row (below_alloc (Below.refl _ _) _) (by omega) _⟩

def privB (n : Int) : Bool := decide (66 ≤ n ∧ n ≤ 71)
theorem priv_66 : Calls Try.prog 21 #[.int .i64 66] w fun e w' => e = .returned (.bool true) ∧ w' = w := by
  go_enter Try.func21, Try.ntmps21
  go_wp2_with fail
  go_ret
  exact ⟨rfl, rfl⟩

theorem priv_67 : Calls Try.prog 21 #[.int .i64 67] w fun e w' => e = .returned (.bool true) ∧ w' = w := by
  go_enter Try.func21, Try.ntmps21
  go_wp2_with fail
  go_ret
  exact ⟨rfl, rfl⟩

theorem priv_68 : Calls Try.prog 21 #[.int .i64 68] w fun e w' => e = .returned (.bool true) ∧ w' = w := by
  go_enter Try.func21, Try.ntmps21
  go_wp2_with fail
  go_ret
  exact ⟨rfl, rfl⟩

theorem priv_69 : Calls Try.prog 21 #[.int .i64 69] w fun e w' => e = .returned (.bool true) ∧ w' = w := by
  go_enter Try.func21, Try.ntmps21
  go_wp2_with fail
  go_ret
  exact ⟨rfl, rfl⟩

theorem priv_70 : Calls Try.prog 21 #[.int .i64 70] w fun e w' => e = .returned (.bool true) ∧ w' = w := by
  go_enter Try.func21, Try.ntmps21
  go_wp2_with fail
  go_ret
  exact ⟨rfl, rfl⟩

theorem priv_71 : Calls Try.prog 21 #[.int .i64 71] w fun e w' => e = .returned (.bool true) ∧ w' = w := by
  go_enter Try.func21, Try.ntmps21
  go_wp2_with fail
  go_ret
  exact ⟨rfl, rfl⟩

theorem priv_no (h66 : (n == 66) = false) (h67 : (n == 67) = false) (h68 : (n == 68) = false) (h69 : (n == 69) = false) (h70 : (n == 70) = false) (h71 : (n == 71) = false) : Calls Try.prog 21 #[.int .i64 n] w fun e w' => e = .returned (.bool false) ∧ w' = w := by
  go_enter Try.func21, Try.ntmps21
  go_wp2_with fail
  go_ret
  exact ⟨rfl, rfl⟩
theorem priv_calls : Calls Try.prog 21 #[.int .i64 n] w fun e w' => e = .returned (.bool (privB n)) ∧ w' = w := by
  by_cases h : 66 ≤ n ∧ n ≤ 71
  · rw [show privB n = true from decide_eq_true h]
    have : n = 66 ∨ n = 67 ∨ n = 68 ∨ n = 69 ∨ n = 70 ∨ n = 71 := by omega
    rcases this with rfl | rfl | rfl | rfl | rfl | rfl
    · exact priv_66 w
    · exact priv_67 w
    · exact priv_68 w
    · exact priv_69 w
    · exact priv_70 w
    · exact priv_71 w
  · rw [show privB n = false from decide_eq_false h]
    exact priv_no n w (beq_eq_false_iff_ne.2 (by omega)) (beq_eq_false_iff_ne.2 (by omega)) (beq_eq_false_iff_ne.2 (by omega)) (beq_eq_false_iff_ne.2 (by omega)) (beq_eq_false_iff_ne.2 (by omega)) (beq_eq_false_iff_ne.2 (by omega))
theorem rpriv_lo (h : decide (66 ≤ n) = false) : Calls Try.prog 22 #[.int .i64 n] w fun e w' => e = .returned (.bool false) ∧ w' = w := by
  go_enter Try.func22, Try.ntmps22
  go_wp2_with fail
  go_ret
  exact ⟨rfl, rfl⟩
theorem rpriv_hi (b : Bool) (h : decide (66 ≤ n) = true) (h1 : decide (n ≤ 71) = b) : Calls Try.prog 22 #[.int .i64 n] w fun e w' => e = .returned (.bool b) ∧ w' = w := by
  go_enter Try.func22, Try.ntmps22
  go_wp2_with fail
  go_ret
  exact ⟨rfl, rfl⟩
theorem rpriv_calls : Calls Try.prog 22 #[.int .i64 n] w fun e w' => e = .returned (.bool (privB n)) ∧ w' = w := by
  by_cases h : 66 ≤ n
  · by_cases h1 : n ≤ 71
    · rw [show privB n = true from decide_eq_true ⟨h, h1⟩]
      exact rpriv_hi n w _ (decide_eq_true h) (decide_eq_true h1)
    · rw [show privB n = false from decide_eq_false (by omega)]
      exact rpriv_hi n w _ (decide_eq_true h) (decide_eq_false h1)
  · rw [show privB n = false from decide_eq_false (by omega)]
    exact rpriv_lo n w (decide_eq_false h)

end
end Go.Proofs.Ythoafohndinbeaa.VcpuSet
