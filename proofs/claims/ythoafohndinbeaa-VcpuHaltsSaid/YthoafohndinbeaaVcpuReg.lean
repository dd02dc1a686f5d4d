/- What register and Control come to: the address of a control register, or none; what it holds. -/
import Derived.Test.YthoafohndinbeaaVcpuCheck
import Derived.BigRegion
namespace Go.Proofs.Ythoafohndinbeaa.VcpuReg
open Go.RowKit Go.Proofs.Ythoafohndinbeaa.PVcpuBack Go.Proofs.YthoafohndinbeaaW.PrintWords Go.Proofs.YthoafohndinbeaaW.PrintLast Go.Proofs.YthoafohndinbeaaW.PrintMore Go.Proofs.Ythoafohndinbeaa.Aid Go.Proofs.Ythoafohndinbeaa.VcpuBase Go.Proofs.Ythoafohndinbeaa.VcpuCheck
attribute [local go_sem] get24 ge24 get25 ge25 get26 ge26 get27 ge27 get28 ge28 get29 ge29 get30 ge30 get31 ge31 get32 ge32 get33 ge33 get34 ge34 set24 set25 set26 set27 set28 set29 set30 set31 set32 set33 set34 vc_size
set_option maxHeartbeats 1600000
set_option maxRecDepth 100000
set_option linter.unusedVariables false
section
variable (g : Nat) (n : Int) (w : World)

theorem reg_neg (h : decide (n < 0) = true) : Calls Try.prog 32 #[.pointer (some ⟨g, 25, none⟩), .int .i64 n] w fun e w' => e = .returned (.pointer none) ∧ Below w.heap.size w w' := by
  go_enter Try.func32, Try.ntmps32
  go_wp2_with fail
  go_region
  go_wp2_with fail
  go_ret
  exact ⟨rfl, by repeat (first | exact Below.refl _ _ | apply below_alloc | apply pw_below_drewN | apply below_drew | apply below_set)⟩

theorem reg_big (h : decide (n < 0) = false) (h1 : decide (8 ≤ n) = true) : Calls Try.prog 32 #[.pointer (some ⟨g, 25, none⟩), .int .i64 n] w fun e w' => e = .returned (.pointer none) ∧ Below w.heap.size w w' := by
  go_enter Try.func32, Try.ntmps32
  go_wp2_with fail
  go_region
  go_wp2_with fail
  go_ret
  exact ⟨rfl, by repeat (first | exact Below.refl _ _ | apply below_alloc | apply pw_below_drewN | apply below_drew | apply below_set)⟩

theorem reg_0 : Calls Try.prog 32 #[.pointer (some ⟨g, 25, none⟩), .int .i64 0] w fun e w' => e = .returned (.pointer (some ⟨g, 25, none⟩)) ∧ Below w.heap.size w w' := by
  go_enter Try.func32, Try.ntmps32
  go_wp2_with fail
  go_region
  go_wp2_with fail
  go_ret
  exact ⟨rfl, by repeat (first | exact Below.refl _ _ | apply below_alloc | apply pw_below_drewN | apply below_drew | apply below_set)⟩

theorem reg_1 : Calls Try.prog 32 #[.pointer (some ⟨g, 25, none⟩), .int .i64 1] w fun e w' => e = .returned (.pointer (some ⟨g, 26, none⟩)) ∧ Below w.heap.size w w' := by
  go_enter Try.func32, Try.ntmps32
  go_wp2_with fail
  go_region
  go_wp2_with fail
  go_ret
  exact ⟨rfl, by repeat (first | exact Below.refl _ _ | apply below_alloc | apply pw_below_drewN | apply below_drew | apply below_set)⟩

theorem reg_2 : Calls Try.prog 32 #[.pointer (some ⟨g, 25, none⟩), .int .i64 2] w fun e w' => e = .returned (.pointer (some ⟨g, 27, none⟩)) ∧ Below w.heap.size w w' := by
  go_enter Try.func32, Try.ntmps32
  go_wp2_with fail
  go_region
  go_wp2_with fail
  go_ret
  exact ⟨rfl, by repeat (first | exact Below.refl _ _ | apply below_alloc | apply pw_below_drewN | apply below_drew | apply below_set)⟩

theorem reg_3 : Calls Try.prog 32 #[.pointer (some ⟨g, 25, none⟩), .int .i64 3] w fun e w' => e = .returned (.pointer (some ⟨g, 28, none⟩)) ∧ Below w.heap.size w w' := by
  go_enter Try.func32, Try.ntmps32
  go_wp2_with fail
  go_region
  go_wp2_with fail
  go_ret
  exact ⟨rfl, by repeat (first | exact Below.refl _ _ | apply below_alloc | apply pw_below_drewN | apply below_drew | apply below_set)⟩

theorem reg_4 : Calls Try.prog 32 #[.pointer (some ⟨g, 25, none⟩), .int .i64 4] w fun e w' => e = .returned (.pointer (some ⟨g, 29, none⟩)) ∧ Below w.heap.size w w' := by
  go_enter Try.func32, Try.ntmps32
  go_wp2_with fail
  go_region
  go_wp2_with fail
  go_ret
  exact ⟨rfl, by repeat (first | exact Below.refl _ _ | apply below_alloc | apply pw_below_drewN | apply below_drew | apply below_set)⟩

theorem reg_5 : Calls Try.prog 32 #[.pointer (some ⟨g, 25, none⟩), .int .i64 5] w fun e w' => e = .returned (.pointer (some ⟨g, 30, none⟩)) ∧ Below w.heap.size w w' := by
  go_enter Try.func32, Try.ntmps32
  go_wp2_with fail
  go_region
  go_wp2_with fail
  go_ret
  exact ⟨rfl, by repeat (first | exact Below.refl _ _ | apply below_alloc | apply pw_below_drewN | apply below_drew | apply below_set)⟩

theorem reg_6 : Calls Try.prog 32 #[.pointer (some ⟨g, 25, none⟩), .int .i64 6] w fun e w' => e = .returned (.pointer (some ⟨g, 31, none⟩)) ∧ Below w.heap.size w w' := by
  go_enter Try.func32, Try.ntmps32
  go_wp2_with fail
  go_region
  go_wp2_with fail
  go_ret
  exact ⟨rfl, by repeat (first | exact Below.refl _ _ | apply below_alloc | apply pw_below_drewN | apply below_drew | apply below_set)⟩

theorem reg_7 : Calls Try.prog 32 #[.pointer (some ⟨g, 25, none⟩), .int .i64 7] w fun e w' => e = .returned (.pointer (some ⟨g, 32, none⟩)) ∧ Below w.heap.size w w' := by
  go_enter Try.func32, Try.ntmps32
  go_wp2_with fail
  go_region
  go_wp2_with fail
  go_ret
  exact ⟨rfl, by repeat (first | exact Below.refl _ _ | apply below_alloc | apply pw_below_drewN | apply below_drew | apply below_set)⟩

theorem reg_none (h : n < 0 ∨ 8 ≤ n) : Calls Try.prog 32 #[.pointer (some ⟨g, 25, none⟩), .int .i64 n] w fun e w' => e = .returned (.pointer none) ∧ Below w.heap.size w w' := by
  by_cases h0 : n < 0
  · exact reg_neg g n w (decide_eq_true h0)
  · exact reg_big g n w (decide_eq_false h0) (decide_eq_true (by omega))
end
section
variable (c : Cx) (n p t : Int) (w : World)
def ctl (c : Cx) : Nat → Int
  | 0 => c.st
  | 1 => c.sv
  | 2 => c.ca
  | 3 => c.ep
  | 4 => c.tv
  | 5 => c.ve
  | 6 => c.sc
  | 7 => c.ma
  | _ => 0
theorem control_0 : Calls Try.prog 11 #[.agg (vc c), .int .i64 0, .int .u32 p, .int .u32 t] w fun e w' => e = .returned (.tuple #[.int .u32 c.st, .int .i64 0]) ∧ Below w.heap.size w w' := by
  go_enter Try.func11, Try.ntmps11
  go_wp2_with fail
  refine (reg_0 _ _).mono ?_
  rintro e w1 ⟨rfl, hB⟩
  have hc := (hB.cell (p := ⟨w.heap.size, 25, none⟩) (by simp)).trans ((blk_cell (heap_alloc_new w _) 25).trans (get25 c))
  have HB := Aside0.mk hB
  clear hB
  go_wp2_with fail
  go_ret2
  exact ⟨rfl, (below_alloc (Below.refl _ _) _).trans (HB.out.mono (by simp))⟩

theorem control_1 : Calls Try.prog 11 #[.agg (vc c), .int .i64 1, .int .u32 p, .int .u32 t] w fun e w' => e = .returned (.tuple #[.int .u32 c.sv, .int .i64 0]) ∧ Below w.heap.size w w' := by
  go_enter Try.func11, Try.ntmps11
  go_wp2_with fail
  refine (reg_1 _ _).mono ?_
  rintro e w1 ⟨rfl, hB⟩
  have hc := (hB.cell (p := ⟨w.heap.size, 26, none⟩) (by simp)).trans ((blk_cell (heap_alloc_new w _) 26).trans (get26 c))
  have HB := Aside0.mk hB
  clear hB
  go_wp2_with fail
  go_ret2
  exact ⟨rfl, (below_alloc (Below.refl _ _) _).trans (HB.out.mono (by simp))⟩

theorem control_2 : Calls Try.prog 11 #[.agg (vc c), .int .i64 2, .int .u32 p, .int .u32 t] w fun e w' => e = .returned (.tuple #[.int .u32 c.ca, .int .i64 0]) ∧ Below w.heap.size w w' := by
  go_enter Try.func11, Try.ntmps11
  go_wp2_with fail
  refine (reg_2 _ _).mono ?_
  rintro e w1 ⟨rfl, hB⟩
  have hc := (hB.cell (p := ⟨w.heap.size, 27, none⟩) (by simp)).trans ((blk_cell (heap_alloc_new w _) 27).trans (get27 c))
  have HB := Aside0.mk hB
  clear hB
  go_wp2_with fail
  go_ret2
  exact ⟨rfl, (below_alloc (Below.refl _ _) _).trans (HB.out.mono (by simp))⟩

theorem control_3 : Calls Try.prog 11 #[.agg (vc c), .int .i64 3, .int .u32 p, .int .u32 t] w fun e w' => e = .returned (.tuple #[.int .u32 c.ep, .int .i64 0]) ∧ Below w.heap.size w w' := by
  go_enter Try.func11, Try.ntmps11
  go_wp2_with fail
  refine (reg_3 _ _).mono ?_
  rintro e w1 ⟨rfl, hB⟩
  have hc := (hB.cell (p := ⟨w.heap.size, 28, none⟩) (by simp)).trans ((blk_cell (heap_alloc_new w _) 28).trans (get28 c))
  have HB := Aside0.mk hB
  clear hB
  go_wp2_with fail
  go_ret2
  exact ⟨rfl, (below_alloc (Below.refl _ _) _).trans (HB.out.mono (by simp))⟩

theorem control_4 : Calls Try.prog 11 #[.agg (vc c), .int .i64 4, .int .u32 p, .int .u32 t] w fun e w' => e = .returned (.tuple #[.int .u32 c.tv, .int .i64 0]) ∧ Below w.heap.size w w' := by
  go_enter Try.func11, Try.ntmps11
  go_wp2_with fail
  refine (reg_4 _ _).mono ?_
  rintro e w1 ⟨rfl, hB⟩
  have hc := (hB.cell (p := ⟨w.heap.size, 29, none⟩) (by simp)).trans ((blk_cell (heap_alloc_new w _) 29).trans (get29 c))
  have HB := Aside0.mk hB
  clear hB
  go_wp2_with fail
  go_ret2
  exact ⟨rfl, (below_alloc (Below.refl _ _) _).trans (HB.out.mono (by simp))⟩

theorem control_5 : Calls Try.prog 11 #[.agg (vc c), .int .i64 5, .int .u32 p, .int .u32 t] w fun e w' => e = .returned (.tuple #[.int .u32 c.ve, .int .i64 0]) ∧ Below w.heap.size w w' := by
  go_enter Try.func11, Try.ntmps11
  go_wp2_with fail
  refine (reg_5 _ _).mono ?_
  rintro e w1 ⟨rfl, hB⟩
  have hc := (hB.cell (p := ⟨w.heap.size, 30, none⟩) (by simp)).trans ((blk_cell (heap_alloc_new w _) 30).trans (get30 c))
  have HB := Aside0.mk hB
  clear hB
  go_wp2_with fail
  go_ret2
  exact ⟨rfl, (below_alloc (Below.refl _ _) _).trans (HB.out.mono (by simp))⟩

theorem control_6 : Calls Try.prog 11 #[.agg (vc c), .int .i64 6, .int .u32 p, .int .u32 t] w fun e w' => e = .returned (.tuple #[.int .u32 c.sc, .int .i64 0]) ∧ Below w.heap.size w w' := by
  go_enter Try.func11, Try.ntmps11
  go_wp2_with fail
  refine (reg_6 _ _).mono ?_
  rintro e w1 ⟨rfl, hB⟩
  have hc := (hB.cell (p := ⟨w.heap.size, 31, none⟩) (by simp)).trans ((blk_cell (heap_alloc_new w _) 31).trans (get31 c))
  have HB := Aside0.mk hB
  clear hB
  go_wp2_with fail
  go_ret2
  exact ⟨rfl, (below_alloc (Below.refl _ _) _).trans (HB.out.mono (by simp))⟩

theorem control_7 : Calls Try.prog 11 #[.agg (vc c), .int .i64 7, .int .u32 p, .int .u32 t] w fun e w' => e = .returned (.tuple #[.int .u32 c.ma, .int .i64 0]) ∧ Below w.heap.size w w' := by
  go_enter Try.func11, Try.ntmps11
  go_wp2_with fail
  refine (reg_7 _ _).mono ?_
  rintro e w1 ⟨rfl, hB⟩
  have hc := (hB.cell (p := ⟨w.heap.size, 32, none⟩) (by simp)).trans ((blk_cell (heap_alloc_new w _) 32).trans (get32 c))
  have HB := Aside0.mk hB
  clear hB
  go_wp2_with fail
  go_ret2
  exact ⟨rfl, (below_alloc (Below.refl _ _) _).trans (HB.out.mono (by simp))⟩

theorem control_p (h : 8 ≤ n) (h0 : (n == 8) = true) : Calls Try.prog 11 #[.agg (vc c), .int .i64 n, .int .u32 p, .int .u32 t] w fun e w' => e = .returned (.tuple #[.int .u32 p, .int .i64 0]) ∧ Below w.heap.size w w' := by
  go_enter Try.func11, Try.ntmps11
  go_wp2_with fail
  refine (reg_none _ _ _ (by omega)).mono ?_
  rintro e w1 ⟨rfl, hB⟩
  have HB := Aside0.mk hB
  clear hB
  go_wp2_with fail
  go_ret2
  exact ⟨rfl, (below_alloc (Below.refl _ _) _).trans (HB.out.mono (by simp))⟩

theorem control_t (h : 8 ≤ n) (h0 : (n == 8) = false) (h1 : (n == 9) = true) : Calls Try.prog 11 #[.agg (vc c), .int .i64 n, .int .u32 p, .int .u32 t] w fun e w' => e = .returned (.tuple #[.int .u32 t, .int .i64 0]) ∧ Below w.heap.size w w' := by
  go_enter Try.func11, Try.ntmps11
  go_wp2_with fail
  refine (reg_none _ _ _ (by omega)).mono ?_
  rintro e w1 ⟨rfl, hB⟩
  have HB := Aside0.mk hB
  clear hB
  go_wp2_with fail
  go_ret2
  exact ⟨rfl, (below_alloc (Below.refl _ _) _).trans (HB.out.mono (by simp))⟩

theorem control_n (h : n < 0 ∨ 8 ≤ n) (h0 : (n == 8) = false) (h1 : (n == 9) = false) : Calls Try.prog 11 #[.agg (vc c), .int .i64 n, .int .u32 p, .int .u32 t] w fun e w' => e = .returned (.tuple #[.int .u32 0, .int .i64 2]) ∧ Below w.heap.size w w' := by
  go_enter Try.func11, Try.ntmps11
  go_wp2_with fail
  refine (reg_none _ _ _ (by omega)).mono ?_
  rintro e w1 ⟨rfl, hB⟩
  have HB := Aside0.mk hB
  clear hB
  go_wp2_with fail
  go_ret2
  exact ⟨rfl, (below_alloc (Below.refl _ _) _).trans (HB.out.mono (by simp))⟩

def ctlV (c : Cx) (n p t : Int) : Int := if n < 0 ∨ 10 ≤ n then 0 else if n = 8 then p else if n = 9 then t else ctl c n.toNat
def ctlE (n : Int) : Int := if n < 0 ∨ 10 ≤ n then 2 else 0
theorem eight {n : Int} (h0 : 0 ≤ n) (h1 : n < 8) : n = 0 ∨ n = 1 ∨ n = 2 ∨ n = 3 ∨ n = 4 ∨ n = 5 ∨ n = 6 ∨ n = 7 := by omega
theorem control_calls : Calls Try.prog 11 #[.agg (vc c), .int .i64 n, .int .u32 p, .int .u32 t] w fun e w' => e = .returned (.tuple #[.int .u32 (ctlV c n p t), .int .i64 (ctlE n)]) ∧ Below w.heap.size w w' := by
  by_cases h : 0 ≤ n ∧ n < 8
  · have e2 : ctlE n = 0 := if_neg (by omega)
    have e1 : ctlV c n p t = ctl c n.toNat := by
      unfold ctlV
      rw [if_neg (by omega), if_neg (by omega), if_neg (by omega)]
    rw [e1, e2]
    rcases eight h.1 h.2 with rfl | rfl | rfl | rfl | rfl | rfl | rfl | rfl
    · exact control_0 c p t w
    · exact control_1 c p t w
    · exact control_2 c p t w
    · exact control_3 c p t w
    · exact control_4 c p t w
    · exact control_5 c p t w
    · exact control_6 c p t w
    · exact control_7 c p t w
  · by_cases h8 : n = 8
    · have e2 : ctlE n = 0 := if_neg (by omega)
      have e1 : ctlV c n p t = p := by
        unfold ctlV
        rw [if_neg (by omega), if_pos h8]
      rw [e1, e2]
      exact control_p c n p t w (by omega) (by simp [h8])
    · by_cases h9 : n = 9
      · have e2 : ctlE n = 0 := if_neg (by omega)
        have e1 : ctlV c n p t = t := by
          unfold ctlV
          rw [if_neg (by omega), if_neg h8, if_pos h9]
        rw [e1, e2]
        exact control_t c n p t w (by omega) (by simp [h8]) (by simp [h9])
      · have e2 : ctlE n = 2 := if_pos (by omega)
        have e1 : ctlV c n p t = 0 := by
          unfold ctlV
          rw [if_pos (by omega)]
        rw [e1, e2]
        exact control_n c n p t w (by omega) (by simp [h8]) (by simp [h9])

theorem rwords_calls (x0 x1 x2 x3 x4 x5 x6 x7 : Int) : Calls Try.prog 33 #[.agg #[.int .u32 x0, .int .u32 x1, .int .u32 x2, .int .u32 x3, .int .u32 x4, .int .u32 x5, .int .u32 x6, .int .u32 x7]] w fun e w' => e = .returned (.agg #[.int .u32 x0, .int .u32 x1, .int .u32 x2, .int .u32 x3, .int .u32 x4, .int .u32 x5, .int .u32 x6, .int .u32 x7]) ∧ Below w.heap.size w w' := by
  go_enter Try.func33, Try.ntmps33
  go_wp2_with fail
  exact bodyPost_ret (v := .agg #[.int .u32 x0, .int .u32 x1, .int .u32 x2, .int .u32 x3, .int .u32 x4, .int .u32 x5, .int .u32 x6, .int .u32 x7]) (by simp [results, Try.results33, go_sem]) rfl ⟨rfl, by repeat (first | exact Below.refl _ _ | apply below_alloc | apply pw_below_drewN | apply below_drew | apply below_set)⟩

theorem rcontrol_0 : Calls Try.prog 12 #[.agg (vc c), .int .i64 0, .int .u32 p, .int .u32 t] w fun e w' => e = .returned (.tuple #[.int .u32 c.st, .int .i64 0]) ∧ Below w.heap.size w w' := by
  go_enter Try.func12, Try.ntmps12
  go_wp2_with fail
  refine (rwords_calls _ _ _ _ _ _ _ _ _).mono ?_
  rintro e w1 ⟨rfl, hB⟩
  have HB := Aside0.mk hB
  clear hB
  go_wp2_with fail
  go_ret2
  exact ⟨rfl, below_alloc ((below_alloc (Below.refl _ _) _).trans (HB.out.mono (by simp))) _⟩

theorem rcontrol_1 : Calls Try.prog 12 #[.agg (vc c), .int .i64 1, .int .u32 p, .int .u32 t] w fun e w' => e = .returned (.tuple #[.int .u32 c.sv, .int .i64 0]) ∧ Below w.heap.size w w' := by
  go_enter Try.func12, Try.ntmps12
  go_wp2_with fail
  refine (rwords_calls _ _ _ _ _ _ _ _ _).mono ?_
  rintro e w1 ⟨rfl, hB⟩
  have HB := Aside0.mk hB
  clear hB
  go_wp2_with fail
  go_ret2
  exact ⟨rfl, below_alloc ((below_alloc (Below.refl _ _) _).trans (HB.out.mono (by simp))) _⟩

theorem rcontrol_2 : Calls Try.prog 12 #[.agg (vc c), .int .i64 2, .int .u32 p, .int .u32 t] w fun e w' => e = .returned (.tuple #[.int .u32 c.ca, .int .i64 0]) ∧ Below w.heap.size w w' := by
  go_enter Try.func12, Try.ntmps12
  go_wp2_with fail
  refine (rwords_calls _ _ _ _ _ _ _ _ _).mono ?_
  rintro e w1 ⟨rfl, hB⟩
  have HB := Aside0.mk hB
  clear hB
  go_wp2_with fail
  go_ret2
  exact ⟨rfl, below_alloc ((below_alloc (Below.refl _ _) _).trans (HB.out.mono (by simp))) _⟩

theorem rcontrol_3 : Calls Try.prog 12 #[.agg (vc c), .int .i64 3, .int .u32 p, .int .u32 t] w fun e w' => e = .returned (.tuple #[.int .u32 c.ep, .int .i64 0]) ∧ Below w.heap.size w w' := by
  go_enter Try.func12, Try.ntmps12
  go_wp2_with fail
  refine (rwords_calls _ _ _ _ _ _ _ _ _).mono ?_
  rintro e w1 ⟨rfl, hB⟩
  have HB := Aside0.mk hB
  clear hB
  go_wp2_with fail
  go_ret2
  exact ⟨rfl, below_alloc ((below_alloc (Below.refl _ _) _).trans (HB.out.mono (by simp))) _⟩

theorem rcontrol_4 : Calls Try.prog 12 #[.agg (vc c), .int .i64 4, .int .u32 p, .int .u32 t] w fun e w' => e = .returned (.tuple #[.int .u32 c.tv, .int .i64 0]) ∧ Below w.heap.size w w' := by
  go_enter Try.func12, Try.ntmps12
  go_wp2_with fail
  refine (rwords_calls _ _ _ _ _ _ _ _ _).mono ?_
  rintro e w1 ⟨rfl, hB⟩
  have HB := Aside0.mk hB
  clear hB
  go_wp2_with fail
  go_ret2
  exact ⟨rfl, below_alloc ((below_alloc (Below.refl _ _) _).trans (HB.out.mono (by simp))) _⟩

theorem rcontrol_5 : Calls Try.prog 12 #[.agg (vc c), .int .i64 5, .int .u32 p, .int .u32 t] w fun e w' => e = .returned (.tuple #[.int .u32 c.ve, .int .i64 0]) ∧ Below w.heap.size w w' := by
  go_enter Try.func12, Try.ntmps12
  go_wp2_with fail
  refine (rwords_calls _ _ _ _ _ _ _ _ _).mono ?_
  rintro e w1 ⟨rfl, hB⟩
  have HB := Aside0.mk hB
  clear hB
  go_wp2_with fail
  go_ret2
  exact ⟨rfl, below_alloc ((below_alloc (Below.refl _ _) _).trans (HB.out.mono (by simp))) _⟩

theorem rcontrol_6 : Calls Try.prog 12 #[.agg (vc c), .int .i64 6, .int .u32 p, .int .u32 t] w fun e w' => e = .returned (.tuple #[.int .u32 c.sc, .int .i64 0]) ∧ Below w.heap.size w w' := by
  go_enter Try.func12, Try.ntmps12
  go_wp2_with fail
  refine (rwords_calls _ _ _ _ _ _ _ _ _).mono ?_
  rintro e w1 ⟨rfl, hB⟩
  have HB := Aside0.mk hB
  clear hB
  go_wp2_with fail
  go_ret2
  exact ⟨rfl, below_alloc ((below_alloc (Below.refl _ _) _).trans (HB.out.mono (by simp))) _⟩

theorem rcontrol_7 : Calls Try.prog 12 #[.agg (vc c), .int .i64 7, .int .u32 p, .int .u32 t] w fun e w' => e = .returned (.tuple #[.int .u32 c.ma, .int .i64 0]) ∧ Below w.heap.size w w' := by
  go_enter Try.func12, Try.ntmps12
  go_wp2_with fail
  refine (rwords_calls _ _ _ _ _ _ _ _ _).mono ?_
  rintro e w1 ⟨rfl, hB⟩
  have HB := Aside0.mk hB
  clear hB
  go_wp2_with fail
  go_ret2
  exact ⟨rfl, below_alloc ((below_alloc (Below.refl _ _) _).trans (HB.out.mono (by simp))) _⟩

theorem rcontrol_neg (h : decide (n < 0) = true) : Calls Try.prog 12 #[.agg (vc c), .int .i64 n, .int .u32 p, .int .u32 t] w fun e w' => e = .returned (.tuple #[.int .u32 0, .int .i64 2]) ∧ Below w.heap.size w w' := by
  go_enter Try.func12, Try.ntmps12
  go_wp2_with fail
  go_ret2
  exact ⟨rfl, below_alloc (Below.refl _ _) _⟩

theorem rcontrol_big (h : decide (n < 0) = false) (h1 : decide (10 ≤ n) = true) : Calls Try.prog 12 #[.agg (vc c), .int .i64 n, .int .u32 p, .int .u32 t] w fun e w' => e = .returned (.tuple #[.int .u32 0, .int .i64 2]) ∧ Below w.heap.size w w' := by
  go_enter Try.func12, Try.ntmps12
  go_wp2_with fail
  go_ret2
  exact ⟨rfl, below_alloc (Below.refl _ _) _⟩

theorem rcontrol_p (h : decide (n < 0) = false) (h1 : decide (10 ≤ n) = false) (h2 : (n == 8) = true) : Calls Try.prog 12 #[.agg (vc c), .int .i64 n, .int .u32 p, .int .u32 t] w fun e w' => e = .returned (.tuple #[.int .u32 p, .int .i64 0]) ∧ Below w.heap.size w w' := by
  go_enter Try.func12, Try.ntmps12
  go_wp2_with fail
  go_ret2
  exact ⟨rfl, below_alloc (Below.refl _ _) _⟩

theorem rcontrol_t (h : decide (n < 0) = false) (h1 : decide (10 ≤ n) = false) (h2 : (n == 8) = false) (h3 : (n == 9) = true) : Calls Try.prog 12 #[.agg (vc c), .int .i64 n, .int .u32 p, .int .u32 t] w fun e w' => e = .returned (.tuple #[.int .u32 t, .int .i64 0]) ∧ Below w.heap.size w w' := by
  go_enter Try.func12, Try.ntmps12
  go_wp2_with fail
  go_ret2
  exact ⟨rfl, below_alloc (Below.refl _ _) _⟩

theorem rcontrol_calls : Calls Try.prog 12 #[.agg (vc c), .int .i64 n, .int .u32 p, .int .u32 t] w fun e w' => e = .returned (.tuple #[.int .u32 (ctlV c n p t), .int .i64 (ctlE n)]) ∧ Below w.heap.size w w' := by
  by_cases h : 0 ≤ n ∧ n < 8
  · have e2 : ctlE n = 0 := if_neg (by omega)
    have e1 : ctlV c n p t = ctl c n.toNat := by
      unfold ctlV
      rw [if_neg (by omega), if_neg (by omega), if_neg (by omega)]
    rw [e1, e2]
    rcases eight h.1 h.2 with rfl | rfl | rfl | rfl | rfl | rfl | rfl | rfl
    · exact rcontrol_0 c p t w
    · exact rcontrol_1 c p t w
    · exact rcontrol_2 c p t w
    · exact rcontrol_3 c p t w
    · exact rcontrol_4 c p t w
    · exact rcontrol_5 c p t w
    · exact rcontrol_6 c p t w
    · exact rcontrol_7 c p t w
  · by_cases h0 : n < 0
    · have e2 : ctlE n = 2 := if_pos (by omega)
      have e1 : ctlV c n p t = 0 := if_pos (by omega)
      rw [e1, e2]
      exact rcontrol_neg c n p t w (decide_eq_true h0)
    · by_cases h8 : n = 8
      · have e2 : ctlE n = 0 := if_neg (by omega)
        have e1 : ctlV c n p t = p := by
          unfold ctlV
          rw [if_neg (by omega), if_pos h8]
        rw [e1, e2]
        exact rcontrol_p c n p t w (decide_eq_false h0) (decide_eq_false (by omega)) (by simp [h8])
      · by_cases h9 : n = 9
        · have e2 : ctlE n = 0 := if_neg (by omega)
          have e1 : ctlV c n p t = t := by
            unfold ctlV
            rw [if_neg (by omega), if_neg h8, if_pos h9]
          rw [e1, e2]
          exact rcontrol_t c n p t w (decide_eq_false h0) (decide_eq_false (by omega)) (by simp [h8]) (by simp [h9])
        · have e2 : ctlE n = 2 := if_pos (by omega)
          have e1 : ctlV c n p t = 0 := if_pos (by omega)
          rw [e1, e2]
          exact rcontrol_big c n p t w (decide_eq_false h0) (decide_eq_true (by omega))

end
end Go.Proofs.Ythoafohndinbeaa.VcpuReg
