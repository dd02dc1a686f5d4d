/- What Enter, Return and Privileged come to, in the program and in the reference. -/
import Derived.Test.YthoafohndinbeaaVcpuBase
namespace Go.Proofs.Ythoafohndinbeaa.VcpuEnter
open Go.RowKit Go.Proofs.Ythoafohndinbeaa.PVcpuBack Go.Proofs.YthoafohndinbeaaW.PrintWords Go.Proofs.YthoafohndinbeaaW.PrintLast Go.Proofs.YthoafohndinbeaaW.PrintMore Go.Proofs.Ythoafohndinbeaa.Aid Go.Proofs.Ythoafohndinbeaa.VcpuBase
attribute [local go_sem] get24 ge24 get25 ge25 get26 ge26 get27 ge27 get28 ge28 get29 ge29 get30 ge30 get31 ge31 get32 ge32 get33 ge33 get34 ge34 set24 set25 set26 set27 set28 set29 set30 set31 set32 set33 set34 vc_size
def haltC (c : Cx) (k : Int) : Cx := { c with id := false, ha := k }
def goC (c : Cx) (cause tval : Int) : Cx := { c with id := false, sv := c.st, ca := cause % 4294967296, ep := c.pc, tv := tval, st := 6, pc := c.ve }
def backC (c : Cx) : Cx := { c with pc := c.ep, st := c.sv }
def enterC (c : Cx) (cause tval : Int) : Cx := if c.ha ≠ 0 then c else if c.st / 4 % 2 = 1 then haltC c 2 else if c.ve = 0 then haltC c 3 else goC c cause tval
def returnC (c : Cx) : Cx := if c.ha = 0 then backC c else c
set_option maxHeartbeats 1600000
set_option maxRecDepth 100000
section
variable (c : Cx) (cause tval : Int) (w : World)
theorem enter_halt (h : (c.ha == 0) = false) :
    Calls Try.prog 17 #[.agg (vc c), .int .i64 cause, .int .u32 tval] w fun e w' => e = .returned (.agg (vc c)) ∧ Below w.heap.size w w' := by
  go_enter Try.func17, Try.ntmps17
  go_wp2_with (first | refine ld rfl _ rfl w.heap.size rfl _ (by (with_reducible first | exact heap_alloc_new _ _ | exact heap_alloc2_old _ _ _ | exact heap_alloc2_new _ _ _ | ((first | refine blk_put ?_ _ _ (set24 _ _) | refine blk_put ?_ _ _ (set25 _ _) | refine blk_put ?_ _ _ (set26 _ _) | refine blk_put ?_ _ _ (set27 _ _) | refine blk_put ?_ _ _ (set28 _ _) | refine blk_put ?_ _ _ (set29 _ _) | refine blk_put ?_ _ _ (set30 _ _) | refine blk_put ?_ _ _ (set31 _ _) | refine blk_put ?_ _ _ (set32 _ _) | refine blk_put ?_ _ _ (set33 _ _) | refine blk_put ?_ _ _ (set34 _ _)); exact heap_alloc2_old _ _ _) | ((first | refine blk_put ?_ _ _ (set24 _ _) | refine blk_put ?_ _ _ (set25 _ _) | refine blk_put ?_ _ _ (set26 _ _) | refine blk_put ?_ _ _ (set27 _ _) | refine blk_put ?_ _ _ (set28 _ _) | refine blk_put ?_ _ _ (set29 _ _) | refine blk_put ?_ _ _ (set30 _ _) | refine blk_put ?_ _ _ (set31 _ _) | refine blk_put ?_ _ _ (set32 _ _) | refine blk_put ?_ _ _ (set33 _ _) | refine blk_put ?_ _ _ (set34 _ _)); exact heap_alloc_new _ _))) ?_ | refine st rfl _ _ rfl (w.heap.size + 1) _ rfl rfl zc (by with_reducible exact zblk _ _) ?_)
  (try simp only [Exit.inBlock, Exit.then]); exact bodyPost_ret (v := .agg (vc (c))) (results_cell_row rfl _ _ (w.heap.size + 1) 31 (vc (c)) (0, 0) _ rfl (row_new (zblk _ _) _) Try.underlying31 rfl (by kernel_rfl)) rfl ⟨rfl, by repeat (first | exact Below.refl _ _ | apply below_alloc | apply below_drew | (refine below_row ?_ (by omega) _) | (refine below_set ?_ (by omega)))⟩
theorem enter_trap (h : (c.ha == 0) = true) (h1 : (Go.bits .and .u32 c.st 4 == 0) = false) :
    Calls Try.prog 17 #[.agg (vc c), .int .i64 cause, .int .u32 tval] w fun e w' => e = .returned (.agg (vc (haltC c 2))) ∧ Below w.heap.size w w' := by
  go_enter Try.func17, Try.ntmps17
  go_wp2_with (first | refine ld rfl _ rfl w.heap.size rfl _ (by (with_reducible first | exact heap_alloc_new _ _ | exact heap_alloc2_old _ _ _ | exact heap_alloc2_new _ _ _ | ((first | refine blk_put ?_ _ _ (set24 _ _) | refine blk_put ?_ _ _ (set25 _ _) | refine blk_put ?_ _ _ (set26 _ _) | refine blk_put ?_ _ _ (set27 _ _) | refine blk_put ?_ _ _ (set28 _ _) | refine blk_put ?_ _ _ (set29 _ _) | refine blk_put ?_ _ _ (set30 _ _) | refine blk_put ?_ _ _ (set31 _ _) | refine blk_put ?_ _ _ (set32 _ _) | refine blk_put ?_ _ _ (set33 _ _) | refine blk_put ?_ _ _ (set34 _ _)); exact heap_alloc2_old _ _ _) | ((first | refine blk_put ?_ _ _ (set24 _ _) | refine blk_put ?_ _ _ (set25 _ _) | refine blk_put ?_ _ _ (set26 _ _) | refine blk_put ?_ _ _ (set27 _ _) | refine blk_put ?_ _ _ (set28 _ _) | refine blk_put ?_ _ _ (set29 _ _) | refine blk_put ?_ _ _ (set30 _ _) | refine blk_put ?_ _ _ (set31 _ _) | refine blk_put ?_ _ _ (set32 _ _) | refine blk_put ?_ _ _ (set33 _ _) | refine blk_put ?_ _ _ (set34 _ _)); exact heap_alloc_new _ _))) ?_ | refine st rfl _ _ rfl (w.heap.size + 1) _ rfl rfl zc (by with_reducible exact zblk _ _) ?_)
  (try simp only [Exit.inBlock, Exit.then]); exact bodyPost_ret (v := .agg (vc (haltC c 2))) (results_cell_row rfl _ _ (w.heap.size + 1) 31 (vc (haltC c 2)) (0, 0) _ rfl (row_new (zblk _ _) _) Try.underlying31 rfl (by kernel_rfl)) rfl ⟨rfl, by repeat (first | exact Below.refl _ _ | apply below_alloc | apply below_drew | (refine below_row ?_ (by omega) _) | (refine below_set ?_ (by omega)))⟩
theorem enter_none (h : (c.ha == 0) = true) (h1 : (Go.bits .and .u32 c.st 4 == 0) = true) (h2 : (c.ve == 0) = true) :
    Calls Try.prog 17 #[.agg (vc c), .int .i64 cause, .int .u32 tval] w fun e w' => e = .returned (.agg (vc (haltC c 3))) ∧ Below w.heap.size w w' := by
  go_enter Try.func17, Try.ntmps17
  go_wp2_with (first | refine ld rfl _ rfl w.heap.size rfl _ (by (with_reducible first | exact heap_alloc_new _ _ | exact heap_alloc2_old _ _ _ | exact heap_alloc2_new _ _ _ | ((first | refine blk_put ?_ _ _ (set24 _ _) | refine blk_put ?_ _ _ (set25 _ _) | refine blk_put ?_ _ _ (set26 _ _) | refine blk_put ?_ _ _ (set27 _ _) | refine blk_put ?_ _ _ (set28 _ _) | refine blk_put ?_ _ _ (set29 _ _) | refine blk_put ?_ _ _ (set30 _ _) | refine blk_put ?_ _ _ (set31 _ _) | refine blk_put ?_ _ _ (set32 _ _) | refine blk_put ?_ _ _ (set33 _ _) | refine blk_put ?_ _ _ (set34 _ _)); exact heap_alloc2_old _ _ _) | ((first | refine blk_put ?_ _ _ (set24 _ _) | refine blk_put ?_ _ _ (set25 _ _) | refine blk_put ?_ _ _ (set26 _ _) | refine blk_put ?_ _ _ (set27 _ _) | refine blk_put ?_ _ _ (set28 _ _) | refine blk_put ?_ _ _ (set29 _ _) | refine blk_put ?_ _ _ (set30 _ _) | refine blk_put ?_ _ _ (set31 _ _) | refine blk_put ?_ _ _ (set32 _ _) | refine blk_put ?_ _ _ (set33 _ _) | refine blk_put ?_ _ _ (set34 _ _)); exact heap_alloc_new _ _))) ?_ | refine st rfl _ _ rfl (w.heap.size + 1) _ rfl rfl zc (by with_reducible exact zblk _ _) ?_)
  (try simp only [Exit.inBlock, Exit.then]); exact bodyPost_ret (v := .agg (vc (haltC c 3))) (results_cell_row rfl _ _ (w.heap.size + 1) 31 (vc (haltC c 3)) (0, 0) _ rfl (row_new (zblk _ _) _) Try.underlying31 rfl (by kernel_rfl)) rfl ⟨rfl, by repeat (first | exact Below.refl _ _ | apply below_alloc | apply below_drew | (refine below_row ?_ (by omega) _) | (refine below_set ?_ (by omega)))⟩
theorem enter_goes (h : (c.ha == 0) = true) (h1 : (Go.bits .and .u32 c.st 4 == 0) = true) (h2 : (c.ve == 0) = false) :
    Calls Try.prog 17 #[.agg (vc c), .int .i64 cause, .int .u32 tval] w fun e w' => e = .returned (.agg (vc (goC c cause tval))) ∧ Below w.heap.size w w' := by
  go_enter Try.func17, Try.ntmps17
  go_wp2_with (first | refine ld rfl _ rfl w.heap.size rfl _ (by (with_reducible first | exact heap_alloc_new _ _ | exact heap_alloc2_old _ _ _ | exact heap_alloc2_new _ _ _ | ((first | refine blk_put ?_ _ _ (set24 _ _) | refine blk_put ?_ _ _ (set25 _ _) | refine blk_put ?_ _ _ (set26 _ _) | refine blk_put ?_ _ _ (set27 _ _) | refine blk_put ?_ _ _ (set28 _ _) | refine blk_put ?_ _ _ (set29 _ _) | refine blk_put ?_ _ _ (set30 _ _) | refine blk_put ?_ _ _ (set31 _ _) | refine blk_put ?_ _ _ (set32 _ _) | refine blk_put ?_ _ _ (set33 _ _) | refine blk_put ?_ _ _ (set34 _ _)); exact heap_alloc2_old _ _ _) | ((first | refine blk_put ?_ _ _ (set24 _ _) | refine blk_put ?_ _ _ (set25 _ _) | refine blk_put ?_ _ _ (set26 _ _) | refine blk_put ?_ _ _ (set27 _ _) | refine blk_put ?_ _ _ (set28 _ _) | refine blk_put ?_ _ _ (set29 _ _) | refine blk_put ?_ _ _ (set30 _ _) | refine blk_put ?_ _ _ (set31 _ _) | refine blk_put ?_ _ _ (set32 _ _) | refine blk_put ?_ _ _ (set33 _ _) | refine blk_put ?_ _ _ (set34 _ _)); exact heap_alloc_new _ _))) ?_ | refine st rfl _ _ rfl (w.heap.size + 1) _ rfl rfl zc (by with_reducible exact zblk _ _) ?_)
  (try simp only [Exit.inBlock, Exit.then]); exact bodyPost_ret (v := .agg (vc (goC c cause tval))) (results_cell_row rfl _ _ (w.heap.size + 1) 31 (vc (goC c cause tval)) (0, 0) _ rfl (row_new (zblk _ _) _) Try.underlying31 rfl (by kernel_rfl)) rfl ⟨rfl, by repeat (first | exact Below.refl _ _ | apply below_alloc | apply below_drew | (refine below_row ?_ (by omega) _) | (refine below_set ?_ (by omega)))⟩
theorem renter_halt (h : (c.ha == 0) = false) :
    Calls Try.prog 18 #[.agg (vc c), .int .i64 cause, .int .u32 tval] w fun e w' => e = .returned (.agg (vc c)) ∧ Below w.heap.size w w' := by
  go_enter Try.func18, Try.ntmps18
  go_wp2_with (first | refine ld rfl _ rfl w.heap.size rfl _ (by (with_reducible first | exact heap_alloc_new _ _ | exact heap_alloc2_old _ _ _ | exact heap_alloc2_new _ _ _ | ((first | refine blk_put ?_ _ _ (set24 _ _) | refine blk_put ?_ _ _ (set25 _ _) | refine blk_put ?_ _ _ (set26 _ _) | refine blk_put ?_ _ _ (set27 _ _) | refine blk_put ?_ _ _ (set28 _ _) | refine blk_put ?_ _ _ (set29 _ _) | refine blk_put ?_ _ _ (set30 _ _) | refine blk_put ?_ _ _ (set31 _ _) | refine blk_put ?_ _ _ (set32 _ _) | refine blk_put ?_ _ _ (set33 _ _) | refine blk_put ?_ _ _ (set34 _ _)); exact heap_alloc2_old _ _ _) | ((first | refine blk_put ?_ _ _ (set24 _ _) | refine blk_put ?_ _ _ (set25 _ _) | refine blk_put ?_ _ _ (set26 _ _) | refine blk_put ?_ _ _ (set27 _ _) | refine blk_put ?_ _ _ (set28 _ _) | refine blk_put ?_ _ _ (set29 _ _) | refine blk_put ?_ _ _ (set30 _ _) | refine blk_put ?_ _ _ (set31 _ _) | refine blk_put ?_ _ _ (set32 _ _) | refine blk_put ?_ _ _ (set33 _ _) | refine blk_put ?_ _ _ (set34 _ _)); exact heap_alloc_new _ _))) ?_ | refine st rfl _ _ rfl (w.heap.size + 1) _ rfl rfl zc (by with_reducible exact zblk _ _) ?_)
  (try simp only [Exit.inBlock, Exit.then]); exact bodyPost_ret (v := .agg (vc (c))) (results_cell_row rfl _ _ (w.heap.size + 1) 31 (vc (c)) (0, 0) _ rfl (row_new (zblk _ _) _) Try.underlying31 rfl (by kernel_rfl)) rfl ⟨rfl, by repeat (first | exact Below.refl _ _ | apply below_alloc | apply below_drew | (refine below_row ?_ (by omega) _) | (refine below_set ?_ (by omega)))⟩
theorem renter_trap (s0 : 0 ≤ c.st) (s1 : c.st < 4294967296) (h : (c.ha == 0) = true) (h1 : (c.st / 4 % 2 == 1) = true) :
    Calls Try.prog 18 #[.agg (vc c), .int .i64 cause, .int .u32 tval] w fun e w' => e = .returned (.agg (vc (haltC c 2))) ∧ Below w.heap.size w w' := by
  go_enter Try.func18, Try.ntmps18
  go_wp2_with (first | refine ld rfl _ rfl w.heap.size rfl _ (by (with_reducible first | exact heap_alloc_new _ _ | exact heap_alloc2_old _ _ _ | exact heap_alloc2_new _ _ _ | ((first | refine blk_put ?_ _ _ (set24 _ _) | refine blk_put ?_ _ _ (set25 _ _) | refine blk_put ?_ _ _ (set26 _ _) | refine blk_put ?_ _ _ (set27 _ _) | refine blk_put ?_ _ _ (set28 _ _) | refine blk_put ?_ _ _ (set29 _ _) | refine blk_put ?_ _ _ (set30 _ _) | refine blk_put ?_ _ _ (set31 _ _) | refine blk_put ?_ _ _ (set32 _ _) | refine blk_put ?_ _ _ (set33 _ _) | refine blk_put ?_ _ _ (set34 _ _)); exact heap_alloc2_old _ _ _) | ((first | refine blk_put ?_ _ _ (set24 _ _) | refine blk_put ?_ _ _ (set25 _ _) | refine blk_put ?_ _ _ (set26 _ _) | refine blk_put ?_ _ _ (set27 _ _) | refine blk_put ?_ _ _ (set28 _ _) | refine blk_put ?_ _ _ (set29 _ _) | refine blk_put ?_ _ _ (set30 _ _) | refine blk_put ?_ _ _ (set31 _ _) | refine blk_put ?_ _ _ (set32 _ _) | refine blk_put ?_ _ _ (set33 _ _) | refine blk_put ?_ _ _ (set34 _ _)); exact heap_alloc_new _ _))) ?_ | refine st rfl _ _ rfl (w.heap.size + 1) _ rfl rfl zc (by with_reducible exact zblk _ _) ?_)
  (try simp only [Exit.inBlock, Exit.then]); exact bodyPost_ret (v := .agg (vc (haltC c 2))) (results_cell_row rfl _ _ (w.heap.size + 1) 31 (vc (haltC c 2)) (0, 0) _ rfl (row_new (zblk _ _) _) Try.underlying31 rfl (by kernel_rfl)) rfl ⟨rfl, by repeat (first | exact Below.refl _ _ | apply below_alloc | apply below_drew | (refine below_row ?_ (by omega) _) | (refine below_set ?_ (by omega)))⟩
theorem renter_none (s0 : 0 ≤ c.st) (s1 : c.st < 4294967296) (h : (c.ha == 0) = true) (h1 : (c.st / 4 % 2 == 1) = false) (h2 : (c.ve == 0) = true) :
    Calls Try.prog 18 #[.agg (vc c), .int .i64 cause, .int .u32 tval] w fun e w' => e = .returned (.agg (vc (haltC c 3))) ∧ Below w.heap.size w w' := by
  go_enter Try.func18, Try.ntmps18
  go_wp2_with (first | refine ld rfl _ rfl w.heap.size rfl _ (by (with_reducible first | exact heap_alloc_new _ _ | exact heap_alloc2_old _ _ _ | exact heap_alloc2_new _ _ _ | ((first | refine blk_put ?_ _ _ (set24 _ _) | refine blk_put ?_ _ _ (set25 _ _) | refine blk_put ?_ _ _ (set26 _ _) | refine blk_put ?_ _ _ (set27 _ _) | refine blk_put ?_ _ _ (set28 _ _) | refine blk_put ?_ _ _ (set29 _ _) | refine blk_put ?_ _ _ (set30 _ _) | refine blk_put ?_ _ _ (set31 _ _) | refine blk_put ?_ _ _ (set32 _ _) | refine blk_put ?_ _ _ (set33 _ _) | refine blk_put ?_ _ _ (set34 _ _)); exact heap_alloc2_old _ _ _) | ((first | refine blk_put ?_ _ _ (set24 _ _) | refine blk_put ?_ _ _ (set25 _ _) | refine blk_put ?_ _ _ (set26 _ _) | refine blk_put ?_ _ _ (set27 _ _) | refine blk_put ?_ _ _ (set28 _ _) | refine blk_put ?_ _ _ (set29 _ _) | refine blk_put ?_ _ _ (set30 _ _) | refine blk_put ?_ _ _ (set31 _ _) | refine blk_put ?_ _ _ (set32 _ _) | refine blk_put ?_ _ _ (set33 _ _) | refine blk_put ?_ _ _ (set34 _ _)); exact heap_alloc_new _ _))) ?_ | refine st rfl _ _ rfl (w.heap.size + 1) _ rfl rfl zc (by with_reducible exact zblk _ _) ?_)
  (try simp only [Exit.inBlock, Exit.then]); exact bodyPost_ret (v := .agg (vc (haltC c 3))) (results_cell_row rfl _ _ (w.heap.size + 1) 31 (vc (haltC c 3)) (0, 0) _ rfl (row_new (zblk _ _) _) Try.underlying31 rfl (by kernel_rfl)) rfl ⟨rfl, by repeat (first | exact Below.refl _ _ | apply below_alloc | apply below_drew | (refine below_row ?_ (by omega) _) | (refine below_set ?_ (by omega)))⟩
theorem renter_goes (s0 : 0 ≤ c.st) (s1 : c.st < 4294967296) (h : (c.ha == 0) = true) (h1 : (c.st / 4 % 2 == 1) = false) (h2 : (c.ve == 0) = false) :
    Calls Try.prog 18 #[.agg (vc c), .int .i64 cause, .int .u32 tval] w fun e w' => e = .returned (.agg (vc (goC c cause tval))) ∧ Below w.heap.size w w' := by
  go_enter Try.func18, Try.ntmps18
  go_wp2_with (first | refine ld rfl _ rfl w.heap.size rfl _ (by (with_reducible first | exact heap_alloc_new _ _ | exact heap_alloc2_old _ _ _ | exact heap_alloc2_new _ _ _ | ((first | refine blk_put ?_ _ _ (set24 _ _) | refine blk_put ?_ _ _ (set25 _ _) | refine blk_put ?_ _ _ (set26 _ _) | refine blk_put ?_ _ _ (set27 _ _) | refine blk_put ?_ _ _ (set28 _ _) | refine blk_put ?_ _ _ (set29 _ _) | refine blk_put ?_ _ _ (set30 _ _) | refine blk_put ?_ _ _ (set31 _ _) | refine blk_put ?_ _ _ (set32 _ _) | refine blk_put ?_ _ _ (set33 _ _) | refine blk_put ?_ _ _ (set34 _ _)); exact heap_alloc2_old _ _ _) | ((first | refine blk_put ?_ _ _ (set24 _ _) | refine blk_put ?_ _ _ (set25 _ _) | refine blk_put ?_ _ _ (set26 _ _) | refine blk_put ?_ _ _ (set27 _ _) | refine blk_put ?_ _ _ (set28 _ _) | refine blk_put ?_ _ _ (set29 _ _) | refine blk_put ?_ _ _ (set30 _ _) | refine blk_put ?_ _ _ (set31 _ _) | refine blk_put ?_ _ _ (set32 _ _) | refine blk_put ?_ _ _ (set33 _ _) | refine blk_put ?_ _ _ (set34 _ _)); exact heap_alloc_new _ _))) ?_ | refine st rfl _ _ rfl (w.heap.size + 1) _ rfl rfl zc (by with_reducible exact zblk _ _) ?_)
  (try simp only [Exit.inBlock, Exit.then]); exact bodyPost_ret (v := .agg (vc (goC c cause tval))) (results_cell_row rfl _ _ (w.heap.size + 1) 31 (vc (goC c cause tval)) (0, 0) _ rfl (row_new (zblk _ _) _) Try.underlying31 rfl (by kernel_rfl)) rfl ⟨rfl, by repeat (first | exact Below.refl _ _ | apply below_alloc | apply below_drew | (refine below_row ?_ (by omega) _) | (refine below_set ?_ (by omega)))⟩
theorem return_yes (h : (c.ha == 0) = true) :
    Calls Try.prog 19 #[.agg (vc c)] w fun e w' => e = .returned (.agg (vc (backC c))) ∧ Below w.heap.size w w' := by
  go_enter Try.func19, Try.ntmps19
  go_wp2_with (first | refine ld rfl _ rfl w.heap.size rfl _ (by (with_reducible first | exact heap_alloc_new _ _ | exact heap_alloc2_old _ _ _ | exact heap_alloc2_new _ _ _ | ((first | refine blk_put ?_ _ _ (set24 _ _) | refine blk_put ?_ _ _ (set25 _ _) | refine blk_put ?_ _ _ (set26 _ _) | refine blk_put ?_ _ _ (set27 _ _) | refine blk_put ?_ _ _ (set28 _ _) | refine blk_put ?_ _ _ (set29 _ _) | refine blk_put ?_ _ _ (set30 _ _) | refine blk_put ?_ _ _ (set31 _ _) | refine blk_put ?_ _ _ (set32 _ _) | refine blk_put ?_ _ _ (set33 _ _) | refine blk_put ?_ _ _ (set34 _ _)); exact heap_alloc2_old _ _ _) | ((first | refine blk_put ?_ _ _ (set24 _ _) | refine blk_put ?_ _ _ (set25 _ _) | refine blk_put ?_ _ _ (set26 _ _) | refine blk_put ?_ _ _ (set27 _ _) | refine blk_put ?_ _ _ (set28 _ _) | refine blk_put ?_ _ _ (set29 _ _) | refine blk_put ?_ _ _ (set30 _ _) | refine blk_put ?_ _ _ (set31 _ _) | refine blk_put ?_ _ _ (set32 _ _) | refine blk_put ?_ _ _ (set33 _ _) | refine blk_put ?_ _ _ (set34 _ _)); exact heap_alloc_new _ _))) ?_ | refine st rfl _ _ rfl (w.heap.size + 1) _ rfl rfl zc (by with_reducible exact zblk _ _) ?_)
  (try simp only [Exit.inBlock, Exit.then]); exact bodyPost_ret (v := .agg (vc (backC c))) (results_cell_row rfl _ _ (w.heap.size + 1) 31 (vc (backC c)) (0, 0) _ rfl (row_new (zblk _ _) _) Try.underlying31 rfl (by kernel_rfl)) rfl ⟨rfl, by repeat (first | exact Below.refl _ _ | apply below_alloc | apply below_drew | (refine below_row ?_ (by omega) _) | (refine below_set ?_ (by omega)))⟩
theorem return_no (h : (c.ha == 0) = false) :
    Calls Try.prog 19 #[.agg (vc c)] w fun e w' => e = .returned (.agg (vc c)) ∧ Below w.heap.size w w' := by
  go_enter Try.func19, Try.ntmps19
  go_wp2_with (first | refine ld rfl _ rfl w.heap.size rfl _ (by (with_reducible first | exact heap_alloc_new _ _ | exact heap_alloc2_old _ _ _ | exact heap_alloc2_new _ _ _ | ((first | refine blk_put ?_ _ _ (set24 _ _) | refine blk_put ?_ _ _ (set25 _ _) | refine blk_put ?_ _ _ (set26 _ _) | refine blk_put ?_ _ _ (set27 _ _) | refine blk_put ?_ _ _ (set28 _ _) | refine blk_put ?_ _ _ (set29 _ _) | refine blk_put ?_ _ _ (set30 _ _) | refine blk_put ?_ _ _ (set31 _ _) | refine blk_put ?_ _ _ (set32 _ _) | refine blk_put ?_ _ _ (set33 _ _) | refine blk_put ?_ _ _ (set34 _ _)); exact heap_alloc2_old _ _ _) | ((first | refine blk_put ?_ _ _ (set24 _ _) | refine blk_put ?_ _ _ (set25 _ _) | refine blk_put ?_ _ _ (set26 _ _) | refine blk_put ?_ _ _ (set27 _ _) | refine blk_put ?_ _ _ (set28 _ _) | refine blk_put ?_ _ _ (set29 _ _) | refine blk_put ?_ _ _ (set30 _ _) | refine blk_put ?_ _ _ (set31 _ _) | refine blk_put ?_ _ _ (set32 _ _) | refine blk_put ?_ _ _ (set33 _ _) | refine blk_put ?_ _ _ (set34 _ _)); exact heap_alloc_new _ _))) ?_ | refine st rfl _ _ rfl (w.heap.size + 1) _ rfl rfl zc (by with_reducible exact zblk _ _) ?_)
  (try simp only [Exit.inBlock, Exit.then]); exact bodyPost_ret (v := .agg (vc (c))) (results_cell_row rfl _ _ (w.heap.size + 1) 31 (vc (c)) (0, 0) _ rfl (row_new (zblk _ _) _) Try.underlying31 rfl (by kernel_rfl)) rfl ⟨rfl, by repeat (first | exact Below.refl _ _ | apply below_alloc | apply below_drew | (refine below_row ?_ (by omega) _) | (refine below_set ?_ (by omega)))⟩
theorem rreturn_yes (h : (c.ha == 0) = true) :
    Calls Try.prog 20 #[.agg (vc c)] w fun e w' => e = .returned (.agg (vc (backC c))) ∧ Below w.heap.size w w' := by
  go_enter Try.func20, Try.ntmps20
  go_wp2_with (first | refine ld rfl _ rfl w.heap.size rfl _ (by (with_reducible first | exact heap_alloc_new _ _ | exact heap_alloc2_old _ _ _ | exact heap_alloc2_new _ _ _ | ((first | refine blk_put ?_ _ _ (set24 _ _) | refine blk_put ?_ _ _ (set25 _ _) | refine blk_put ?_ _ _ (set26 _ _) | refine blk_put ?_ _ _ (set27 _ _) | refine blk_put ?_ _ _ (set28 _ _) | refine blk_put ?_ _ _ (set29 _ _) | refine blk_put ?_ _ _ (set30 _ _) | refine blk_put ?_ _ _ (set31 _ _) | refine blk_put ?_ _ _ (set32 _ _) | refine blk_put ?_ _ _ (set33 _ _) | refine blk_put ?_ _ _ (set34 _ _)); exact heap_alloc2_old _ _ _) | ((first | refine blk_put ?_ _ _ (set24 _ _) | refine blk_put ?_ _ _ (set25 _ _) | refine blk_put ?_ _ _ (set26 _ _) | refine blk_put ?_ _ _ (set27 _ _) | refine blk_put ?_ _ _ (set28 _ _) | refine blk_put ?_ _ _ (set29 _ _) | refine blk_put ?_ _ _ (set30 _ _) | refine blk_put ?_ _ _ (set31 _ _) | refine blk_put ?_ _ _ (set32 _ _) | refine blk_put ?_ _ _ (set33 _ _) | refine blk_put ?_ _ _ (set34 _ _)); exact heap_alloc_new _ _))) ?_ | refine st rfl _ _ rfl (w.heap.size + 1) _ rfl rfl zc (by with_reducible exact zblk _ _) ?_)
  (try simp only [Exit.inBlock, Exit.then]); exact bodyPost_ret (v := .agg (vc (backC c))) (results_cell_row rfl _ _ (w.heap.size + 1) 31 (vc (backC c)) (0, 0) _ rfl (row_new (zblk _ _) _) Try.underlying31 rfl (by kernel_rfl)) rfl ⟨rfl, by repeat (first | exact Below.refl _ _ | apply below_alloc | apply below_drew | (refine below_row ?_ (by omega) _) | (refine below_set ?_ (by omega)))⟩
theorem rreturn_no (h : (c.ha == 0) = false) :
    Calls Try.prog 20 #[.agg (vc c)] w fun e w' => e = .returned (.agg (vc c)) ∧ Below w.heap.size w w' := by
  go_enter Try.func20, Try.ntmps20
  go_wp2_with (first | refine ld rfl _ rfl w.heap.size rfl _ (by (with_reducible first | exact heap_alloc_new _ _ | exact heap_alloc2_old _ _ _ | exact heap_alloc2_new _ _ _ | ((first | refine blk_put ?_ _ _ (set24 _ _) | refine blk_put ?_ _ _ (set25 _ _) | refine blk_put ?_ _ _ (set26 _ _) | refine blk_put ?_ _ _ (set27 _ _) | refine blk_put ?_ _ _ (set28 _ _) | refine blk_put ?_ _ _ (set29 _ _) | refine blk_put ?_ _ _ (set30 _ _) | refine blk_put ?_ _ _ (set31 _ _) | refine blk_put ?_ _ _ (set32 _ _) | refine blk_put ?_ _ _ (set33 _ _) | refine blk_put ?_ _ _ (set34 _ _)); exact heap_alloc2_old _ _ _) | ((first | refine blk_put ?_ _ _ (set24 _ _) | refine blk_put ?_ _ _ (set25 _ _) | refine blk_put ?_ _ _ (set26 _ _) | refine blk_put ?_ _ _ (set27 _ _) | refine blk_put ?_ _ _ (set28 _ _) | refine blk_put ?_ _ _ (set29 _ _) | refine blk_put ?_ _ _ (set30 _ _) | refine blk_put ?_ _ _ (set31 _ _) | refine blk_put ?_ _ _ (set32 _ _) | refine blk_put ?_ _ _ (set33 _ _) | refine blk_put ?_ _ _ (set34 _ _)); exact heap_alloc_new _ _))) ?_ | refine st rfl _ _ rfl (w.heap.size + 1) _ rfl rfl zc (by with_reducible exact zblk _ _) ?_)
  (try simp only [Exit.inBlock, Exit.then]); exact bodyPost_ret (v := .agg (vc (c))) (results_cell_row rfl _ _ (w.heap.size + 1) 31 (vc (c)) (0, 0) _ rfl (row_new (zblk _ _) _) Try.underlying31 rfl (by kernel_rfl)) rfl ⟨rfl, by repeat (first | exact Below.refl _ _ | apply below_alloc | apply below_drew | (refine below_row ?_ (by omega) _) | (refine below_set ?_ (by omega)))⟩
theorem bit4 {x : Int} (h0 : 0 ≤ x) (h1 : x < 4294967296) : (Go.bits .and .u32 x 4 == 0) = !(x / 4 % 2 == 1) := by
  obtain ⟨n, rfl⟩ := Int.eq_ofNat_of_zero_le h0
  have e : Go.bits .and .u32 (n : Int) 4 = ((n &&& 4 : Nat) : Int) := by
    rw [u32_and n 4 (by omega) h1 (by omega) (by omega)]
    rfl
  have hb := Nat.testBit_and n 4 2
  have hk : n &&& 4 = if n / 4 % 2 = 1 then 4 else 0 := by
    refine Nat.eq_of_testBit_eq fun j => ?_
    rw [Nat.testBit_and, show (4 : Nat) = 2 ^ 2 from rfl, Nat.testBit_two_pow]
    by_cases hj : 2 = j
    · subst hj
      by_cases h : n / 2 ^ 2 % 2 = 1
      · rw [if_pos h, Nat.testBit_two_pow, Nat.testBit_eq_decide_div_mod_eq]
        simp [h]
      · rw [if_neg h, Nat.testBit_eq_decide_div_mod_eq]
        simp [h]
    · split
      · rw [Nat.testBit_two_pow]
        simp [hj]
      · simp [hj]
  rw [e, hk]
  by_cases h : n / 4 % 2 = 1
  · rw [if_pos h]
    have : ((n : Int) / 4 % 2) = 1 := by omega
    rw [this]
    rfl
  · rw [if_neg h]
    have : ((n : Int) / 4 % 2) = 0 := by omega
    rw [this]
    rfl
theorem enter_calls (s0 : 0 ≤ c.st) (s1 : c.st < 4294967296) :
    Calls Try.prog 17 #[.agg (vc c), .int .i64 cause, .int .u32 tval] w fun e w' => e = .returned (.agg (vc (enterC c cause tval))) ∧ Below w.heap.size w w' := by
  have hb := bit4 s0 s1
  unfold enterC
  by_cases h : c.ha = 0
  · rw [if_neg (by simp [h])]
    by_cases h1 : c.st / 4 % 2 = 1
    · rw [if_pos h1]
      exact enter_trap c cause tval w (by simp [h]) (by rw [hb]; simp [h1])
    · rw [if_neg h1]
      by_cases h2 : c.ve = 0
      · rw [if_pos h2]
        exact enter_none c cause tval w (by simp [h]) (by rw [hb]; simp [h1]) (by simp [h2])
      · rw [if_neg h2]
        exact enter_goes c cause tval w (by simp [h]) (by rw [hb]; simp [h1]) (by simp [h2])
  · rw [if_pos h]
    exact enter_halt c cause tval w (by simp [h])
theorem renter_calls (s0 : 0 ≤ c.st) (s1 : c.st < 4294967296) :
    Calls Try.prog 18 #[.agg (vc c), .int .i64 cause, .int .u32 tval] w fun e w' => e = .returned (.agg (vc (enterC c cause tval))) ∧ Below w.heap.size w w' := by
  unfold enterC
  by_cases h : c.ha = 0
  · rw [if_neg (by simp [h])]
    by_cases h1 : c.st / 4 % 2 = 1
    · rw [if_pos h1]
      exact renter_trap c cause tval w s0 s1 (by simp [h]) (by simp [h1])
    · rw [if_neg h1]
      by_cases h2 : c.ve = 0
      · rw [if_pos h2]
        exact renter_none c cause tval w s0 s1 (by simp [h]) (by simp [h1]) (by simp [h2])
      · rw [if_neg h2]
        exact renter_goes c cause tval w s0 s1 (by simp [h]) (by simp [h1]) (by simp [h2])
  · rw [if_pos h]
    exact renter_halt c cause tval w (by simp [h])
theorem return_calls : Calls Try.prog 19 #[.agg (vc c)] w fun e w' => e = .returned (.agg (vc (returnC c))) ∧ Below w.heap.size w w' := by
  unfold returnC
  by_cases h : c.ha = 0
  · rw [if_pos h]
    exact return_yes c w (by simp [h])
  · rw [if_neg h]
    exact return_no c w (by simp [h])
theorem rreturn_calls : Calls Try.prog 20 #[.agg (vc c)] w fun e w' => e = .returned (.agg (vc (returnC c))) ∧ Below w.heap.size w w' := by
  unfold returnC
  by_cases h : c.ha = 0
  · rw [if_pos h]
    exact rreturn_yes c w (by simp [h])
  · rw [if_neg h]
    exact rreturn_no c w (by simp [h])
end
end Go.Proofs.Ythoafohndinbeaa.VcpuEnter
