/- What Check comes to, in the program and in the reference. -/
import Derived.Test.YthoafohndinbeaaVcpuEnter
namespace Go.Proofs.Ythoafohndinbeaa.VcpuCheck
open Go.RowKit Go.Proofs.Ythoafohndinbeaa.PVcpuBack Go.Proofs.YthoafohndinbeaaW.PrintWords Go.Proofs.YthoafohndinbeaaW.PrintLast Go.Proofs.YthoafohndinbeaaW.PrintMore Go.Proofs.Ythoafohndinbeaa.Aid Go.Proofs.Ythoafohndinbeaa.VcpuBase Go.Proofs.Ythoafohndinbeaa.VcpuEnter
attribute [local go_sem] get24 ge24 get25 ge25 get26 ge26 get27 ge27 get28 ge28 get29 ge29 get30 ge30 get31 ge31 get32 ge32 get33 ge33 get34 ge34 set24 set25 set26 set27 set28 set29 set30 set31 set32 set33 set34 vc_size get0 ge0
set_option maxHeartbeats 1600000
set_option maxRecDepth 100000
set_option linter.unusedVariables false
section
variable (c : Cx) (w : World)

theorem right_no0 (X Y : Int) (hX : Go.bits .or .u32 c.st c.sv = X) (hY : Go.bits .or .u32 (Go.bits .or .u32 c.pc c.ep) c.ve = Y) (Y0 : 0 ≤ Y) (Y1 : Y < 4294967296)  (h0 : (c.R 0 == 0) = false) (h0n : (c.R 0 != 0) = true) : Calls Try.prog 34 #[.agg (vc c)] w fun e w' => e = .returned (.bool false) ∧ Below w.heap.size w w' := by
  go_enter Try.func34, Try.ntmps34
  go_wp2_with fail
  go_ret
  exact ⟨rfl, by repeat (first | exact Below.refl _ _ | apply below_alloc | apply below_drew | apply below_set)⟩

theorem right_no1 (X Y : Int) (hX : Go.bits .or .u32 c.st c.sv = X) (hY : Go.bits .or .u32 (Go.bits .or .u32 c.pc c.ep) c.ve = Y) (Y0 : 0 ≤ Y) (Y1 : Y < 4294967296) (h0 : (c.R 0 == 0) = true) (h0n : (c.R 0 != 0) = false) (h1 : (Go.bits .andNot .u32 X 7 == 0) = false) (h1n : (Go.bits .andNot .u32 X 7 != 0) = true) : Calls Try.prog 34 #[.agg (vc c)] w fun e w' => e = .returned (.bool false) ∧ Below w.heap.size w w' := by
  go_enter Try.func34, Try.ntmps34
  go_wp2_with fail
  go_ret
  exact ⟨rfl, by repeat (first | exact Below.refl _ _ | apply below_alloc | apply below_drew | apply below_set)⟩

theorem right_no2 (X Y : Int) (hX : Go.bits .or .u32 c.st c.sv = X) (hY : Go.bits .or .u32 (Go.bits .or .u32 c.pc c.ep) c.ve = Y) (Y0 : 0 ≤ Y) (Y1 : Y < 4294967296) (h0 : (c.R 0 == 0) = true) (h0n : (c.R 0 != 0) = false) (h1 : (Go.bits .andNot .u32 X 7 == 0) = true) (h1n : (Go.bits .andNot .u32 X 7 != 0) = false) (h2 : decide (c.ma < 256) = false) : Calls Try.prog 34 #[.agg (vc c)] w fun e w' => e = .returned (.bool false) ∧ Below w.heap.size w w' := by
  go_enter Try.func34, Try.ntmps34
  go_wp2_with fail
  go_ret
  exact ⟨rfl, by repeat (first | exact Below.refl _ _ | apply below_alloc | apply below_drew | apply below_set)⟩

theorem right_no3 (X Y : Int) (hX : Go.bits .or .u32 c.st c.sv = X) (hY : Go.bits .or .u32 (Go.bits .or .u32 c.pc c.ep) c.ve = Y) (Y0 : 0 ≤ Y) (Y1 : Y < 4294967296) (h0 : (c.R 0 == 0) = true) (h0n : (c.R 0 != 0) = false) (h1 : (Go.bits .andNot .u32 X 7 == 0) = true) (h1n : (Go.bits .andNot .u32 X 7 != 0) = false) (h2 : decide (c.ma < 256) = true) (h3 : (Y % 4 == 0) = false) (h3n : (Y % 4 != 0) = true) : Calls Try.prog 34 #[.agg (vc c)] w fun e w' => e = .returned (.bool false) ∧ Below w.heap.size w w' := by
  go_enter Try.func34, Try.ntmps34
  go_wp2_with fail
  go_ret
  exact ⟨rfl, by repeat (first | exact Below.refl _ _ | apply below_alloc | apply below_drew | apply below_set)⟩

theorem right_no4 (X Y : Int) (hX : Go.bits .or .u32 c.st c.sv = X) (hY : Go.bits .or .u32 (Go.bits .or .u32 c.pc c.ep) c.ve = Y) (Y0 : 0 ≤ Y) (Y1 : Y < 4294967296) (h0 : (c.R 0 == 0) = true) (h0n : (c.R 0 != 0) = false) (h1 : (Go.bits .andNot .u32 X 7 == 0) = true) (h1n : (Go.bits .andNot .u32 X 7 != 0) = false) (h2 : decide (c.ma < 256) = true) (h3 : (Y % 4 == 0) = true) (h3n : (Y % 4 != 0) = false) (h4 : decide (0 ≤ c.ha) = false) : Calls Try.prog 34 #[.agg (vc c)] w fun e w' => e = .returned (.bool false) ∧ Below w.heap.size w w' := by
  go_enter Try.func34, Try.ntmps34
  go_wp2_with fail
  go_ret
  exact ⟨rfl, by repeat (first | exact Below.refl _ _ | apply below_alloc | apply below_drew | apply below_set)⟩

theorem right_no5 (X Y : Int) (hX : Go.bits .or .u32 c.st c.sv = X) (hY : Go.bits .or .u32 (Go.bits .or .u32 c.pc c.ep) c.ve = Y) (Y0 : 0 ≤ Y) (Y1 : Y < 4294967296) (h0 : (c.R 0 == 0) = true) (h0n : (c.R 0 != 0) = false) (h1 : (Go.bits .andNot .u32 X 7 == 0) = true) (h1n : (Go.bits .andNot .u32 X 7 != 0) = false) (h2 : decide (c.ma < 256) = true) (h3 : (Y % 4 == 0) = true) (h3n : (Y % 4 != 0) = false) (h4 : decide (0 ≤ c.ha) = true) (h5 : decide (c.ha ≤ 3) = false) : Calls Try.prog 34 #[.agg (vc c)] w fun e w' => e = .returned (.bool false) ∧ Below w.heap.size w w' := by
  go_enter Try.func34, Try.ntmps34
  go_wp2_with fail
  go_ret
  exact ⟨rfl, by repeat (first | exact Below.refl _ _ | apply below_alloc | apply below_drew | apply below_set)⟩

theorem right_idle (X Y : Int) (hX : Go.bits .or .u32 c.st c.sv = X) (hY : Go.bits .or .u32 (Go.bits .or .u32 c.pc c.ep) c.ve = Y) (Y0 : 0 ≤ Y) (Y1 : Y < 4294967296) (h0 : (c.R 0 == 0) = true) (h0n : (c.R 0 != 0) = false) (h1 : (Go.bits .andNot .u32 X 7 == 0) = true) (h1n : (Go.bits .andNot .u32 X 7 != 0) = false) (h2 : decide (c.ma < 256) = true) (h3 : (Y % 4 == 0) = true) (h3n : (Y % 4 != 0) = false) (h4 : decide (0 ≤ c.ha) = true) (h5 : decide (c.ha ≤ 3) = true) (g0 : c.id = true) (g1 : (c.ha == 0) = false) (g1n : (c.ha != 0) = true) : Calls Try.prog 34 #[.agg (vc c)] w fun e w' => e = .returned (.bool false) ∧ Below w.heap.size w w' := by
  go_enter Try.func34, Try.ntmps34
  go_wp2_with fail
  go_ret
  exact ⟨rfl, by repeat (first | exact Below.refl _ _ | apply below_alloc | apply below_drew | apply below_set)⟩

theorem right_yes0 (X Y : Int) (hX : Go.bits .or .u32 c.st c.sv = X) (hY : Go.bits .or .u32 (Go.bits .or .u32 c.pc c.ep) c.ve = Y) (Y0 : 0 ≤ Y) (Y1 : Y < 4294967296) (h0 : (c.R 0 == 0) = true) (h0n : (c.R 0 != 0) = false) (h1 : (Go.bits .andNot .u32 X 7 == 0) = true) (h1n : (Go.bits .andNot .u32 X 7 != 0) = false) (h2 : decide (c.ma < 256) = true) (h3 : (Y % 4 == 0) = true) (h3n : (Y % 4 != 0) = false) (h4 : decide (0 ≤ c.ha) = true) (h5 : decide (c.ha ≤ 3) = true) (g0 : c.id = false) : Calls Try.prog 34 #[.agg (vc c)] w fun e w' => e = .returned (.bool true) ∧ Below w.heap.size w w' := by
  go_enter Try.func34, Try.ntmps34
  go_wp2_with fail
  go_ret
  exact ⟨rfl, by repeat (first | exact Below.refl _ _ | apply below_alloc | apply below_drew | apply below_set)⟩

theorem right_yes1 (X Y : Int) (hX : Go.bits .or .u32 c.st c.sv = X) (hY : Go.bits .or .u32 (Go.bits .or .u32 c.pc c.ep) c.ve = Y) (Y0 : 0 ≤ Y) (Y1 : Y < 4294967296) (h0 : (c.R 0 == 0) = true) (h0n : (c.R 0 != 0) = false) (h1 : (Go.bits .andNot .u32 X 7 == 0) = true) (h1n : (Go.bits .andNot .u32 X 7 != 0) = false) (h2 : decide (c.ma < 256) = true) (h3 : (Y % 4 == 0) = true) (h3n : (Y % 4 != 0) = false) (h4 : decide (0 ≤ c.ha) = true) (h5 : decide (c.ha ≤ 3) = true) (g0 : c.id = true) (g1 : (c.ha == 0) = true) (g1n : (c.ha != 0) = false) : Calls Try.prog 34 #[.agg (vc c)] w fun e w' => e = .returned (.bool true) ∧ Below w.heap.size w w' := by
  go_enter Try.func34, Try.ntmps34
  go_wp2_with fail
  go_ret
  exact ⟨rfl, by repeat (first | exact Below.refl _ _ | apply below_alloc | apply below_drew | apply below_set)⟩

theorem rcheck_no0 (p0 : 0 ≤ c.pc) (e0 : 0 ≤ c.ep) (v0 : 0 ≤ c.ve)  (h0 : (c.R 0 == 0) = false) (h0n : (c.R 0 != 0) = true) : Calls Try.prog 26 #[.agg (vc c)] w fun e w' => e = .returned (.int .i64 6) ∧ Below w.heap.size w w' := by
  go_enter Try.func26, Try.ntmps26
  go_wp2_with fail
  go_ret
  exact ⟨rfl, by repeat (first | exact Below.refl _ _ | apply below_alloc | apply below_drew | apply below_set)⟩

theorem rcheck_no1 (p0 : 0 ≤ c.pc) (e0 : 0 ≤ c.ep) (v0 : 0 ≤ c.ve) (h0 : (c.R 0 == 0) = true) (h0n : (c.R 0 != 0) = false) (h1 : decide (7 < c.st) = true) : Calls Try.prog 26 #[.agg (vc c)] w fun e w' => e = .returned (.int .i64 6) ∧ Below w.heap.size w w' := by
  go_enter Try.func26, Try.ntmps26
  go_wp2_with fail
  go_ret
  exact ⟨rfl, by repeat (first | exact Below.refl _ _ | apply below_alloc | apply below_drew | apply below_set)⟩

theorem rcheck_no2 (p0 : 0 ≤ c.pc) (e0 : 0 ≤ c.ep) (v0 : 0 ≤ c.ve) (h0 : (c.R 0 == 0) = true) (h0n : (c.R 0 != 0) = false) (h1 : decide (7 < c.st) = false) (h2 : decide (7 < c.sv) = true) : Calls Try.prog 26 #[.agg (vc c)] w fun e w' => e = .returned (.int .i64 6) ∧ Below w.heap.size w w' := by
  go_enter Try.func26, Try.ntmps26
  go_wp2_with fail
  go_ret
  exact ⟨rfl, by repeat (first | exact Below.refl _ _ | apply below_alloc | apply below_drew | apply below_set)⟩

theorem rcheck_no3 (p0 : 0 ≤ c.pc) (e0 : 0 ≤ c.ep) (v0 : 0 ≤ c.ve) (h0 : (c.R 0 == 0) = true) (h0n : (c.R 0 != 0) = false) (h1 : decide (7 < c.st) = false) (h2 : decide (7 < c.sv) = false) (h3 : decide (255 < c.ma) = true) : Calls Try.prog 26 #[.agg (vc c)] w fun e w' => e = .returned (.int .i64 6) ∧ Below w.heap.size w w' := by
  go_enter Try.func26, Try.ntmps26
  go_wp2_with fail
  go_ret
  exact ⟨rfl, by repeat (first | exact Below.refl _ _ | apply below_alloc | apply below_drew | apply below_set)⟩

theorem rcheck_no4 (p0 : 0 ≤ c.pc) (e0 : 0 ≤ c.ep) (v0 : 0 ≤ c.ve) (h0 : (c.R 0 == 0) = true) (h0n : (c.R 0 != 0) = false) (h1 : decide (7 < c.st) = false) (h2 : decide (7 < c.sv) = false) (h3 : decide (255 < c.ma) = false) (h4 : (c.pc % 4 == 0) = false) (h4n : (c.pc % 4 != 0) = true) : Calls Try.prog 26 #[.agg (vc c)] w fun e w' => e = .returned (.int .i64 6) ∧ Below w.heap.size w w' := by
  go_enter Try.func26, Try.ntmps26
  go_wp2_with fail
  go_ret
  exact ⟨rfl, by repeat (first | exact Below.refl _ _ | apply below_alloc | apply below_drew | apply below_set)⟩

theorem rcheck_no5 (p0 : 0 ≤ c.pc) (e0 : 0 ≤ c.ep) (v0 : 0 ≤ c.ve) (h0 : (c.R 0 == 0) = true) (h0n : (c.R 0 != 0) = false) (h1 : decide (7 < c.st) = false) (h2 : decide (7 < c.sv) = false) (h3 : decide (255 < c.ma) = false) (h4 : (c.pc % 4 == 0) = true) (h4n : (c.pc % 4 != 0) = false) (h5 : (c.ep % 4 == 0) = false) (h5n : (c.ep % 4 != 0) = true) : Calls Try.prog 26 #[.agg (vc c)] w fun e w' => e = .returned (.int .i64 6) ∧ Below w.heap.size w w' := by
  go_enter Try.func26, Try.ntmps26
  go_wp2_with fail
  go_ret
  exact ⟨rfl, by repeat (first | exact Below.refl _ _ | apply below_alloc | apply below_drew | apply below_set)⟩

theorem rcheck_no6 (p0 : 0 ≤ c.pc) (e0 : 0 ≤ c.ep) (v0 : 0 ≤ c.ve) (h0 : (c.R 0 == 0) = true) (h0n : (c.R 0 != 0) = false) (h1 : decide (7 < c.st) = false) (h2 : decide (7 < c.sv) = false) (h3 : decide (255 < c.ma) = false) (h4 : (c.pc % 4 == 0) = true) (h4n : (c.pc % 4 != 0) = false) (h5 : (c.ep % 4 == 0) = true) (h5n : (c.ep % 4 != 0) = false) (h6 : (c.ve % 4 == 0) = false) (h6n : (c.ve % 4 != 0) = true) : Calls Try.prog 26 #[.agg (vc c)] w fun e w' => e = .returned (.int .i64 6) ∧ Below w.heap.size w w' := by
  go_enter Try.func26, Try.ntmps26
  go_wp2_with fail
  go_ret
  exact ⟨rfl, by repeat (first | exact Below.refl _ _ | apply below_alloc | apply below_drew | apply below_set)⟩

theorem rcheck_no7 (p0 : 0 ≤ c.pc) (e0 : 0 ≤ c.ep) (v0 : 0 ≤ c.ve) (h0 : (c.R 0 == 0) = true) (h0n : (c.R 0 != 0) = false) (h1 : decide (7 < c.st) = false) (h2 : decide (7 < c.sv) = false) (h3 : decide (255 < c.ma) = false) (h4 : (c.pc % 4 == 0) = true) (h4n : (c.pc % 4 != 0) = false) (h5 : (c.ep % 4 == 0) = true) (h5n : (c.ep % 4 != 0) = false) (h6 : (c.ve % 4 == 0) = true) (h6n : (c.ve % 4 != 0) = false) (h7 : decide (c.ha < 0) = true) : Calls Try.prog 26 #[.agg (vc c)] w fun e w' => e = .returned (.int .i64 6) ∧ Below w.heap.size w w' := by
  go_enter Try.func26, Try.ntmps26
  go_wp2_with fail
  go_ret
  exact ⟨rfl, by repeat (first | exact Below.refl _ _ | apply below_alloc | apply below_drew | apply below_set)⟩

theorem rcheck_no8 (p0 : 0 ≤ c.pc) (e0 : 0 ≤ c.ep) (v0 : 0 ≤ c.ve) (h0 : (c.R 0 == 0) = true) (h0n : (c.R 0 != 0) = false) (h1 : decide (7 < c.st) = false) (h2 : decide (7 < c.sv) = false) (h3 : decide (255 < c.ma) = false) (h4 : (c.pc % 4 == 0) = true) (h4n : (c.pc % 4 != 0) = false) (h5 : (c.ep % 4 == 0) = true) (h5n : (c.ep % 4 != 0) = false) (h6 : (c.ve % 4 == 0) = true) (h6n : (c.ve % 4 != 0) = false) (h7 : decide (c.ha < 0) = false) (h8 : decide (3 < c.ha) = true) : Calls Try.prog 26 #[.agg (vc c)] w fun e w' => e = .returned (.int .i64 6) ∧ Below w.heap.size w w' := by
  go_enter Try.func26, Try.ntmps26
  go_wp2_with fail
  go_ret
  exact ⟨rfl, by repeat (first | exact Below.refl _ _ | apply below_alloc | apply below_drew | apply below_set)⟩

theorem rcheck_idle (p0 : 0 ≤ c.pc) (e0 : 0 ≤ c.ep) (v0 : 0 ≤ c.ve) (h0 : (c.R 0 == 0) = true) (h0n : (c.R 0 != 0) = false) (h1 : decide (7 < c.st) = false) (h2 : decide (7 < c.sv) = false) (h3 : decide (255 < c.ma) = false) (h4 : (c.pc % 4 == 0) = true) (h4n : (c.pc % 4 != 0) = false) (h5 : (c.ep % 4 == 0) = true) (h5n : (c.ep % 4 != 0) = false) (h6 : (c.ve % 4 == 0) = true) (h6n : (c.ve % 4 != 0) = false) (h7 : decide (c.ha < 0) = false) (h8 : decide (3 < c.ha) = false) (g0 : c.id = true) (g1 : (c.ha == 0) = false) (g1n : (c.ha != 0) = true) : Calls Try.prog 26 #[.agg (vc c)] w fun e w' => e = .returned (.int .i64 6) ∧ Below w.heap.size w w' := by
  go_enter Try.func26, Try.ntmps26
  go_wp2_with fail
  go_ret
  exact ⟨rfl, by repeat (first | exact Below.refl _ _ | apply below_alloc | apply below_drew | apply below_set)⟩

theorem rcheck_yes0 (p0 : 0 ≤ c.pc) (e0 : 0 ≤ c.ep) (v0 : 0 ≤ c.ve) (h0 : (c.R 0 == 0) = true) (h0n : (c.R 0 != 0) = false) (h1 : decide (7 < c.st) = false) (h2 : decide (7 < c.sv) = false) (h3 : decide (255 < c.ma) = false) (h4 : (c.pc % 4 == 0) = true) (h4n : (c.pc % 4 != 0) = false) (h5 : (c.ep % 4 == 0) = true) (h5n : (c.ep % 4 != 0) = false) (h6 : (c.ve % 4 == 0) = true) (h6n : (c.ve % 4 != 0) = false) (h7 : decide (c.ha < 0) = false) (h8 : decide (3 < c.ha) = false) (g0 : c.id = false) (g1 : (c.ha == 0) = false) (g1n : (c.ha != 0) = true) : Calls Try.prog 26 #[.agg (vc c)] w fun e w' => e = .returned (.int .i64 0) ∧ Below w.heap.size w w' := by
  go_enter Try.func26, Try.ntmps26
  go_wp2_with fail
  go_ret
  exact ⟨rfl, by repeat (first | exact Below.refl _ _ | apply below_alloc | apply below_drew | apply below_set)⟩

theorem rcheck_yes1 (p0 : 0 ≤ c.pc) (e0 : 0 ≤ c.ep) (v0 : 0 ≤ c.ve) (h0 : (c.R 0 == 0) = true) (h0n : (c.R 0 != 0) = false) (h1 : decide (7 < c.st) = false) (h2 : decide (7 < c.sv) = false) (h3 : decide (255 < c.ma) = false) (h4 : (c.pc % 4 == 0) = true) (h4n : (c.pc % 4 != 0) = false) (h5 : (c.ep % 4 == 0) = true) (h5n : (c.ep % 4 != 0) = false) (h6 : (c.ve % 4 == 0) = true) (h6n : (c.ve % 4 != 0) = false) (h7 : decide (c.ha < 0) = false) (h8 : decide (3 < c.ha) = false) (g1 : (c.ha == 0) = true) (g1n : (c.ha != 0) = false) : Calls Try.prog 26 #[.agg (vc c)] w fun e w' => e = .returned (.int .i64 0) ∧ Below w.heap.size w w' := by
  go_enter Try.func26, Try.ntmps26
  go_wp2_with fail
  go_ret
  exact ⟨rfl, by repeat (first | exact Below.refl _ _ | apply below_alloc | apply below_drew | apply below_set)⟩

def RightC : Prop := c.R 0 = 0 ∧ c.st < 8 ∧ c.sv < 8 ∧ c.ma < 256 ∧ c.pc % 4 = 0 ∧ c.ep % 4 = 0 ∧ c.ve % 4 = 0 ∧ 0 ≤ c.ha ∧ c.ha ≤ 3 ∧ (c.id = true → c.ha = 0)
/-- Each cell of the context is a number of its kind. -/
structure Wf : Prop where
  R : ∀ i, 0 ≤ c.R i ∧ c.R i < 4294967296
  F : ∀ i, 0 ≤ c.F i ∧ c.F i < 18446744073709551616
  pc : 0 ≤ c.pc ∧ c.pc < 4294967296
  st : 0 ≤ c.st ∧ c.st < 4294967296
  sv : 0 ≤ c.sv ∧ c.sv < 4294967296
  ca : 0 ≤ c.ca ∧ c.ca < 4294967296
  ep : 0 ≤ c.ep ∧ c.ep < 4294967296
  tv : 0 ≤ c.tv ∧ c.tv < 4294967296
  ve : 0 ≤ c.ve ∧ c.ve < 4294967296
  sc : 0 ≤ c.sc ∧ c.sc < 4294967296
  ma : 0 ≤ c.ma ∧ c.ma < 4294967296
  ha : -9223372036854775808 ≤ c.ha ∧ c.ha < 9223372036854775808
theorem or_mod4 (a b : Nat) : (a ||| b) % 4 = 0 ↔ a % 4 = 0 ∧ b % 4 = 0 := by
  have h := Nat.or_mod_two_pow (a := a) (b := b) (n := 2)
  rw [show (2 : Nat) ^ 2 = 4 from rfl] at h
  rw [h, Nat.or_eq_zero_iff]
theorem or_lt8 (a b : Nat) : (a ||| b) < 8 ↔ a < 8 ∧ b < 8 := by
  constructor
  · intro h
    have h1 := Nat.left_le_or (n := a) (m := b)
    have h2 := Nat.right_le_or (n := a) (m := b)
    omega
  · intro h
    exact Nat.or_lt_two_pow (n := 3) h.1 h.2
theorem hi_mask {n k : Nat} (hk : k ≤ 32) (hn : n < 4294967296) : n &&& (4294967295 - (2 ^ k - 1)) = n / 2 ^ k * 2 ^ k := by
  refine Nat.eq_of_testBit_eq fun j => ?_
  have hp0 : 0 < 2 ^ k := Nat.pow_pos (by decide)
  have hp : 2 ^ k ≤ 4294967296 := Nat.pow_le_pow_right (n := 2) (by decide) hk
  have h1 := Nat.testBit_two_pow_sub_succ (n := 32) (x := 2 ^ k - 1) (by omega) j
  have e : 2 ^ 32 - (2 ^ k - 1 + 1) = 4294967295 - (2 ^ k - 1) := by omega
  rw [e] at h1
  rw [Nat.testBit_and, h1, Nat.testBit_two_pow_sub_one, Nat.testBit_mul_two_pow, Nat.testBit_div_two_pow]
  by_cases hj : k ≤ j
  · rw [show j - k + k = j by omega]
    by_cases h32 : j < 32
    · simp [hj, h32]
    · have h2 : n < 2 ^ j := Nat.lt_of_lt_of_le hn (Nat.pow_le_pow_right (n := 2) (by decide) (show 32 ≤ j by omega))
      rw [Nat.testBit_lt_two_pow h2]
      simp
  · have h3 : j < k := by omega
    simp [hj, h3]
variable {c}
theorem Wf.x (h : Wf c) : (Go.bits .andNot .u32 (Go.bits .or .u32 c.st c.sv) 7 == 0) = decide (c.st < 8 ∧ c.sv < 8) := by
  obtain ⟨⟨a0, a1⟩, ⟨b0, b1⟩⟩ := And.intro h.st h.sv
  obtain ⟨a, ha⟩ := Int.eq_ofNat_of_zero_le a0
  obtain ⟨b, hb⟩ := Int.eq_ofNat_of_zero_le b0
  rw [ha] at a1
  rw [hb] at b1
  have hor : a ||| b < 4294967296 := Nat.or_lt_two_pow (n := 32) (by omega) (by omega)
  rw [ha, hb, u32_or_nat a b (by omega) (by omega)]
  have h7 := u32_andNot_nat (a ||| b) 7 hor (by omega)
  rw [show ((7 : Nat) : Int) = 7 from rfl] at h7
  rw [h7, show 4294967295 - 7 = 4294967295 - (2 ^ 3 - 1) from rfl, hi_mask (by omega) hor]
  have key := or_lt8 a b
  by_cases hl : a < 8 ∧ b < 8
  · rw [decide_eq_true (by omega)]
    have := key.2 hl
    rw [show (a ||| b) / 2 ^ 3 * 2 ^ 3 = 0 by omega]
    rfl
  · rw [decide_eq_false (by omega)]
    have : ¬ (a ||| b) < 8 := fun h' => hl (key.1 h')
    refine beq_eq_false_iff_ne.2 ?_
    omega
theorem Wf.y (h : Wf c) : ∃ Y : Int, Go.bits .or .u32 (Go.bits .or .u32 c.pc c.ep) c.ve = Y ∧ 0 ≤ Y ∧ Y < 4294967296 ∧ (Y % 4 == 0) = decide (c.pc % 4 = 0 ∧ c.ep % 4 = 0 ∧ c.ve % 4 = 0) := by
  obtain ⟨⟨a0, a1⟩, ⟨b0, b1⟩, ⟨d0, d1⟩⟩ := And.intro h.pc (And.intro h.ep h.ve)
  obtain ⟨a, ha⟩ := Int.eq_ofNat_of_zero_le a0
  obtain ⟨b, hb⟩ := Int.eq_ofNat_of_zero_le b0
  obtain ⟨d, hd⟩ := Int.eq_ofNat_of_zero_le d0
  rw [ha] at a1
  rw [hb] at b1
  rw [hd] at d1
  have hor : a ||| b < 4294967296 := Nat.or_lt_two_pow (n := 32) (by omega) (by omega)
  have hor2 : (a ||| b) ||| d < 4294967296 := Nat.or_lt_two_pow (n := 32) (by omega) (by omega)
  rw [ha, hb, hd, u32_or_nat a b (by omega) (by omega), u32_or_nat _ d hor (by omega)]
  refine ⟨_, rfl, by omega, by omega, ?_⟩
  have k1 := or_mod4 (a ||| b) d
  have k2 := or_mod4 a b
  by_cases hl : a % 4 = 0 ∧ b % 4 = 0 ∧ d % 4 = 0
  · rw [decide_eq_true (by omega)]
    have : ((a ||| b) ||| d) % 4 = 0 := k1.2 ⟨k2.2 ⟨hl.1, hl.2.1⟩, hl.2.2⟩
    have e : (((a ||| b) ||| d : Nat) : Int) % 4 = 0 := by omega
    rw [e]
    rfl
  · rw [decide_eq_false (by omega)]
    have : ¬ ((a ||| b) ||| d) % 4 = 0 := fun h' => hl ⟨(k2.1 (k1.1 h').1).1, (k2.1 (k1.1 h').1).2, (k1.1 h').2⟩
    refine beq_eq_false_iff_ne.2 ?_
    omega
open Classical in
noncomputable def rightB (c : Cx) : Bool := decide (RightC c)
open Classical in
theorem rightB_true (h : RightC c) : rightB c = true := decide_eq_true h
open Classical in
theorem rightB_false (h : ¬ RightC c) : rightB c = false := decide_eq_false h
theorem right_calls (h : Wf c) : Calls Try.prog 34 #[.agg (vc c)] w fun e w' => e = .returned (.bool (rightB c)) ∧ Below w.heap.size w w' := by
  obtain ⟨Y, hY, Y0, Y1, hy⟩ := h.y
  have hx := h.x
  have ne : ∀ {a : Int} {b : Bool}, (a == 0) = b → (a != 0) = !b := fun h => by rw [bne, h]
  have n1 : ∀ {a : Bool}, a = true → (!a) = false := fun h => by rw [h]; rfl
  have n0 : ∀ {a : Bool}, a = false → (!a) = true := fun h => by rw [h]; rfl
  by_cases r0 : c.R 0 = 0
  · have q0 : (c.R 0 == 0) = true := by simp [r0]
    by_cases r1 : c.st < 8 ∧ c.sv < 8
    · have q1 := hx.trans (decide_eq_true r1)
      by_cases r2 : c.ma < 256
      · have q2 := decide_eq_true r2
        by_cases r3 : c.pc % 4 = 0 ∧ c.ep % 4 = 0 ∧ c.ve % 4 = 0
        · have q3 := hy.trans (decide_eq_true r3)
          by_cases r4 : 0 ≤ c.ha
          · have q4 := decide_eq_true r4
            by_cases r5 : c.ha ≤ 3
            · have q5 := decide_eq_true r5
              cases hid : c.id with
              | false =>
                rw [rightB_true (c := c) ⟨r0, r1.1, r1.2, r2, r3.1, r3.2.1, r3.2.2, r4, r5, fun e => absurd e (by simp [hid])⟩]
                exact right_yes0 c w _ Y rfl hY Y0 Y1 q0 ((ne q0).trans rfl) q1 ((ne q1).trans rfl) q2 q3 ((ne q3).trans rfl) q4 q5 hid
              | true =>
                by_cases r6 : c.ha = 0
                · rw [rightB_true (c := c) ⟨r0, r1.1, r1.2, r2, r3.1, r3.2.1, r3.2.2, r4, r5, fun _ => r6⟩]
                  have q6 : (c.ha == 0) = true := by simp [r6]
                  exact right_yes1 c w _ Y rfl hY Y0 Y1 q0 ((ne q0).trans rfl) q1 ((ne q1).trans rfl) q2 q3 ((ne q3).trans rfl) q4 q5 hid q6 ((ne q6).trans rfl)
                · rw [rightB_false (c := c) fun h => r6 (h.2.2.2.2.2.2.2.2.2 hid)]
                  have q6 : (c.ha == 0) = false := by simp [r6]
                  exact right_idle c w _ Y rfl hY Y0 Y1 q0 ((ne q0).trans rfl) q1 ((ne q1).trans rfl) q2 q3 ((ne q3).trans rfl) q4 q5 hid q6 ((ne q6).trans rfl)
            · rw [rightB_false (c := c) fun h => r5 h.2.2.2.2.2.2.2.2.1]
              exact right_no5 c w _ Y rfl hY Y0 Y1 q0 ((ne q0).trans rfl) q1 ((ne q1).trans rfl) q2 q3 ((ne q3).trans rfl) q4 (decide_eq_false r5)
          · rw [rightB_false (c := c) fun h => r4 h.2.2.2.2.2.2.2.1]
            exact right_no4 c w _ Y rfl hY Y0 Y1 q0 ((ne q0).trans rfl) q1 ((ne q1).trans rfl) q2 q3 ((ne q3).trans rfl) (decide_eq_false r4)
        · rw [rightB_false (c := c) fun h => r3 ⟨h.2.2.2.2.1, h.2.2.2.2.2.1, h.2.2.2.2.2.2.1⟩]
          have q3 := hy.trans (decide_eq_false r3)
          exact right_no3 c w _ Y rfl hY Y0 Y1 q0 ((ne q0).trans rfl) q1 ((ne q1).trans rfl) q2 q3 ((ne q3).trans rfl)
      · rw [rightB_false (c := c) fun h => r2 h.2.2.2.1]
        exact right_no2 c w _ Y rfl hY Y0 Y1 q0 ((ne q0).trans rfl) q1 ((ne q1).trans rfl) (decide_eq_false r2)
    · rw [rightB_false (c := c) fun h => r1 ⟨h.2.1, h.2.2.1⟩]
      have q1 := hx.trans (decide_eq_false r1)
      exact right_no1 c w _ Y rfl hY Y0 Y1 q0 ((ne q0).trans rfl) q1 ((ne q1).trans rfl)
  · rw [rightB_false (c := c) fun h => r0 h.1]
    have q0 : (c.R 0 == 0) = false := by simp [r0]
    exact right_no0 c w _ Y rfl hY Y0 Y1 q0 ((ne q0).trans rfl)
noncomputable def checkC (c : Cx) : Int := if rightB c = true then 0 else 6
theorem check_calls (h : Wf c) : Calls Try.prog 25 #[.agg (vc c)] w fun e w' => e = .returned (.int .i64 (checkC c)) ∧ Below w.heap.size w w' := by
  have H := Aside0.mk h
  clear h
  unfold checkC
  cases hr : rightB c with
  | true =>
    have HR := Aside0.mk hr
    clear hr
    go_enter Try.func25, Try.ntmps25
    go_wp2_with (first | refine ld rfl _ rfl w.heap.size rfl _ (by with_reducible exact heap_alloc_new _ _) ?_ | fail)
    refine (right_calls _ H.out).mono ?_
    rintro e w1 ⟨rfl, hB⟩
    rw [HR.out]
    have HB := Aside0.mk hB
    clear hB
    go_wp2_with fail
    go_ret
    exact ⟨rfl, (below_alloc (Below.refl _ _) _).trans (HB.out.mono (by simp))⟩
  | false =>
    have HR := Aside0.mk hr
    clear hr
    go_enter Try.func25, Try.ntmps25
    go_wp2_with (first | refine ld rfl _ rfl w.heap.size rfl _ (by with_reducible exact heap_alloc_new _ _) ?_ | fail)
    refine (right_calls _ H.out).mono ?_
    rintro e w1 ⟨rfl, hB⟩
    rw [HR.out]
    have HB := Aside0.mk hB
    clear hB
    go_wp2_with fail
    go_ret
    exact ⟨rfl, (below_alloc (Below.refl _ _) _).trans (HB.out.mono (by simp))⟩
theorem rcheck_calls (h : Wf c) : Calls Try.prog 26 #[.agg (vc c)] w fun e w' => e = .returned (.int .i64 (checkC c)) ∧ Below w.heap.size w w' := by
  obtain ⟨p0, e0, v0⟩ := And.intro h.pc.1 (And.intro h.ep.1 h.ve.1)
  have ne : ∀ {a : Int} {b : Bool}, (a == 0) = b → (a != 0) = !b := fun h => by rw [bne, h]
  have no : ¬ RightC c → checkC c = 6 := fun h => by
    unfold checkC
    rw [rightB_false h]
    rfl
  have yes : RightC c → checkC c = 0 := fun h => by
    unfold checkC
    rw [rightB_true h]
    rfl
  by_cases r0 : c.R 0 = 0
  · have q0 : (c.R 0 == 0) = true := by simp [r0]
    by_cases r1 : c.st < 8
    · have q1 : decide (7 < c.st) = false := decide_eq_false (by omega)
      by_cases r2 : c.sv < 8
      · have q2 : decide (7 < c.sv) = false := decide_eq_false (by omega)
        by_cases r3 : c.ma < 256
        · have q3 : decide (255 < c.ma) = false := decide_eq_false (by omega)
          by_cases r4 : c.pc % 4 = 0
          · have q4 : (c.pc % 4 == 0) = true := by simp [r4]
            by_cases r5 : c.ep % 4 = 0
            · have q5 : (c.ep % 4 == 0) = true := by simp [r5]
              by_cases r6 : c.ve % 4 = 0
              · have q6 : (c.ve % 4 == 0) = true := by simp [r6]
                by_cases r7 : 0 ≤ c.ha
                · have q7 : decide (c.ha < 0) = false := decide_eq_false (by omega)
                  by_cases r8 : c.ha ≤ 3
                  · have q8 : decide (3 < c.ha) = false := decide_eq_false (by omega)
                    by_cases r9 : c.ha = 0
                    · rw [yes ⟨r0, r1, r2, r3, r4, r5, r6, r7, r8, fun _ => r9⟩]
                      have q9 : (c.ha == 0) = true := by simp [r9]
                      exact rcheck_yes1 c w p0 e0 v0 q0 ((ne q0).trans rfl) q1 q2 q3 q4 ((ne q4).trans rfl) q5 ((ne q5).trans rfl) q6 ((ne q6).trans rfl) q7 q8 q9 ((ne q9).trans rfl)
                    · have q9 : (c.ha == 0) = false := by simp [r9]
                      cases hid : c.id with
                      | false =>
                        rw [yes ⟨r0, r1, r2, r3, r4, r5, r6, r7, r8, fun e => absurd e (by simp [hid])⟩]
                        exact rcheck_yes0 c w p0 e0 v0 q0 ((ne q0).trans rfl) q1 q2 q3 q4 ((ne q4).trans rfl) q5 ((ne q5).trans rfl) q6 ((ne q6).trans rfl) q7 q8 hid q9 ((ne q9).trans rfl)
                      | true =>
                        rw [no fun h => r9 (h.2.2.2.2.2.2.2.2.2 hid)]
                        exact rcheck_idle c w p0 e0 v0 q0 ((ne q0).trans rfl) q1 q2 q3 q4 ((ne q4).trans rfl) q5 ((ne q5).trans rfl) q6 ((ne q6).trans rfl) q7 q8 hid q9 ((ne q9).trans rfl)
                  · rw [no fun h => r8 h.2.2.2.2.2.2.2.2.1]
                    exact rcheck_no8 c w p0 e0 v0 q0 ((ne q0).trans rfl) q1 q2 q3 q4 ((ne q4).trans rfl) q5 ((ne q5).trans rfl) q6 ((ne q6).trans rfl) q7 (decide_eq_true (by omega))
                · rw [no fun h => r7 h.2.2.2.2.2.2.2.1]
                  exact rcheck_no7 c w p0 e0 v0 q0 ((ne q0).trans rfl) q1 q2 q3 q4 ((ne q4).trans rfl) q5 ((ne q5).trans rfl) q6 ((ne q6).trans rfl) (decide_eq_true (by omega))
              · rw [no fun h => r6 h.2.2.2.2.2.2.1]
                have q6 : (c.ve % 4 == 0) = false := by simp [r6]
                exact rcheck_no6 c w p0 e0 v0 q0 ((ne q0).trans rfl) q1 q2 q3 q4 ((ne q4).trans rfl) q5 ((ne q5).trans rfl) q6 ((ne q6).trans rfl)
            · rw [no fun h => r5 h.2.2.2.2.2.1]
              have q5 : (c.ep % 4 == 0) = false := by simp [r5]
              exact rcheck_no5 c w p0 e0 v0 q0 ((ne q0).trans rfl) q1 q2 q3 q4 ((ne q4).trans rfl) q5 ((ne q5).trans rfl)
          · rw [no fun h => r4 h.2.2.2.2.1]
            have q4 : (c.pc % 4 == 0) = false := by simp [r4]
            exact rcheck_no4 c w p0 e0 v0 q0 ((ne q0).trans rfl) q1 q2 q3 q4 ((ne q4).trans rfl)
        · rw [no fun h => r3 h.2.2.2.1]
          exact rcheck_no3 c w p0 e0 v0 q0 ((ne q0).trans rfl) q1 q2 (decide_eq_true (by omega))
      · rw [no fun h => r2 h.2.2.1]
        exact rcheck_no2 c w p0 e0 v0 q0 ((ne q0).trans rfl) q1 (decide_eq_true (by omega))
    · rw [no fun h => r1 h.2.1]
      exact rcheck_no1 c w p0 e0 v0 q0 ((ne q0).trans rfl) (decide_eq_true (by omega))
  · rw [no fun h => r0 h.1]
    have q0 : (c.R 0 == 0) = false := by simp [r0]
    exact rcheck_no0 c w p0 e0 v0 q0 ((ne q0).trans rfl)
end
end Go.Proofs.Ythoafohndinbeaa.VcpuCheck
