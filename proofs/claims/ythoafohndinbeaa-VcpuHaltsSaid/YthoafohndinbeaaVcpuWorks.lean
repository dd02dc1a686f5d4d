/- The chapter's example: what works comes to. -/
import Derived.Test.YthoafohndinbeaaVcpuSet
import Derived.Test.YthoafohndinbeaaVcpuEnter
import Derived.Test.YthoafohndinbeaaVcpuLd
import Derived.Deep.DeepCutAuto
import Derived.Deep.CutBlock
namespace Go.Proofs.Ythoafohndinbeaa.VcpuWorks
open Go.RowKit Go.Proofs.Ythoafohndinbeaa.PVcpuBack Go.Proofs.YthoafohndinbeaaW.PrintWords Go.Proofs.YthoafohndinbeaaW.PrintLast Go.Proofs.YthoafohndinbeaaW.PrintMore Go.Proofs.Ythoafohndinbeaa.Aid Go.Proofs.Ythoafohndinbeaa.VcpuBase Go.Proofs.Ythoafohndinbeaa.VcpuCheck Go.Proofs.Ythoafohndinbeaa.VcpuReg Go.Proofs.Ythoafohndinbeaa.VcpuSet Go.Proofs.Ythoafohndinbeaa.VcpuEnter Go.Proofs.Ythoafohndinbeaa.VcpuLd
attribute [local go_sem] get24 ge24 get25 ge25 get26 ge26 get27 ge27 get28 ge28 get29 ge29 get30 ge30 get31 ge31 get32 ge32 get33 ge33 get34 ge34 set24 set25 set26 set27 set28 set29 set30 set31 set32 set33 set34 vc_size
set_option maxHeartbeats 1600000
set_option maxRecDepth 100000
set_option linter.unusedVariables false
def c1 : Cx := ⟨fun _ => 0, fun _ => 0, 256, 2, 0, 0, 0, 0, 512, 0, 0, 0, false⟩
def c2 : Cx := ⟨fun _ => 0, fun _ => 0, 512, 6, 2, 1, 256, 5, 512, 0, 0, 0, false⟩
def c3 : Cx := ⟨fun _ => 0, fun _ => 0, 512, 6, 2, 1, 256, 5, 512, 0, 0, 2, false⟩
theorem e1 : setC (beginC 256) 5 515 = c1 := by
  rw [setC_in _ _ _ (by omega)]
  rfl
theorem e2 : enterC c1 1 5 = c2 := by
  unfold enterC
  rw [if_neg (by simp [c1]), if_neg (by simp [c1]), if_neg (by simp [c1])]
  rfl
theorem e3 : enterC c2 1 5 = c3 := by
  unfold enterC
  rw [if_neg (by simp [c2]), if_pos (by simp [c2])]
  rfl
theorem wf2 : Wf c2 := by
  refine ⟨fun i => ?_, fun i => ?_, ?_, ?_, ?_, ?_, ?_, ?_, ?_, ?_, ?_, ?_⟩ <;> simp [c2]
theorem ok2 : checkC c2 = 0 := by
  unfold checkC
  rw [rightB_true (c := c2) ⟨rfl, by decide, by decide, by decide, by decide, by decide, by decide, by decide, by decide, fun _ => rfl⟩]
  rfl
theorem set5 : setE 5 = 0 := by
  unfold setE
  rw [if_neg (by omega)]
theorem field_ha (c : Cx) (w : World) : (Instr.field 31 (.agg (vc c)) 2).run Try.prog w = .ok (.int .i64 c.ha) w := by kernel_rfl
attribute [local go_sem high] field_ha
theorem works_calls (w : World) : Calls Try.prog 31 #[] w fun e w' => e = .returned (.bool true) ∧ Below w.heap.size w w' := by
  go_enter Try.func31, Try.ntmps31
  go_wp2_with fail
  refine (begin_calls _ 256).mono ?_
  rintro e w1 ⟨rfl, hB⟩
  have H1 := Aside0.mk hB
  clear hB
  go_wp2_with fail
  refine (set_calls (beginC 256) 5 515 _ (by omega) (by omega)).mono ?_
  rintro e w2 ⟨rfl, hB⟩
  rw [e1, set5]
  have H2 := Aside0.mk (below_step H1.out hB)
  clear hB H1
  go_wp2_with (first | refine ld rfl _ rfl w2.heap.size rfl _ (by exact row_new (heap_alloc_new _ _) _) ?_ | refine st rfl _ _ rfl w2.heap.size _ rfl rfl zc (by exact heap_alloc_new _ _) ?_)
  refine (enter_calls c1 1 5 _ (by simp [c1]) (by simp [c1])).mono ?_
  rintro e w3 ⟨rfl, hB⟩
  rw [e2]
  have l2 := H2.out.size
  have B3 := Aside0.mk (blk_below (row_new (heap_alloc_new w2 _) (vc c1)) hB)
  have H3 := Aside0.mk (below_step (below_row (below_alloc H2.out _) (by omega) _) hB)
  have l3 := blk_lt B3.out
  clear hB H2
  go_upto_region 3 with (first | refine st rfl _ _ rfl w3.heap.size _ rfl rfl zc (by exact heap_alloc_new _ _) ?_)
  have B4 := Aside0.mk (row_far (blk_alloc B3.out (.cells #[Value.int IntKind.u32 0, Value.int IntKind.u32 0, Value.int IntKind.u32 0, Value.int IntKind.u32 0, Value.int IntKind.u32 0, Value.int IntKind.u32 0, Value.int IntKind.u32 0, Value.int IntKind.u32 0, Value.int IntKind.u32 0, Value.int IntKind.u32 0, Value.int IntKind.u32 0, Value.int IntKind.u32 0, Value.int IntKind.u32 0, Value.int IntKind.u32 0, Value.int IntKind.u32 0, Value.int IntKind.u32 0, Value.int IntKind.u64 0, Value.int IntKind.u64 0, Value.int IntKind.u64 0, Value.int IntKind.u64 0, Value.int IntKind.u64 0, Value.int IntKind.u64 0, Value.int IntKind.u64 0, Value.int IntKind.u64 0, Value.int IntKind.u32 0, Value.int IntKind.u32 0, Value.int IntKind.u32 0, Value.int IntKind.u32 0, Value.int IntKind.u32 0, Value.int IntKind.u32 0, Value.int IntKind.u32 0, Value.int IntKind.u32 0, Value.int IntKind.u32 0, Value.int IntKind.i64 0, Value.bool false] 31)) (vc c2) (show w2.heap.size ≠ w3.heap.size by omega))
  have D4 := Aside0.mk (row_new (heap_alloc_new w3 (.cells #[Value.int IntKind.u32 0, Value.int IntKind.u32 0, Value.int IntKind.u32 0, Value.int IntKind.u32 0, Value.int IntKind.u32 0, Value.int IntKind.u32 0, Value.int IntKind.u32 0, Value.int IntKind.u32 0, Value.int IntKind.u32 0, Value.int IntKind.u32 0, Value.int IntKind.u32 0, Value.int IntKind.u32 0, Value.int IntKind.u32 0, Value.int IntKind.u32 0, Value.int IntKind.u32 0, Value.int IntKind.u32 0, Value.int IntKind.u64 0, Value.int IntKind.u64 0, Value.int IntKind.u64 0, Value.int IntKind.u64 0, Value.int IntKind.u64 0, Value.int IntKind.u64 0, Value.int IntKind.u64 0, Value.int IntKind.u64 0, Value.int IntKind.u32 0, Value.int IntKind.u32 0, Value.int IntKind.u32 0, Value.int IntKind.u32 0, Value.int IntKind.u32 0, Value.int IntKind.u32 0, Value.int IntKind.u32 0, Value.int IntKind.u32 0, Value.int IntKind.u32 0, Value.int IntKind.i64 0, Value.bool false] 31)) (vc c2))
  have H4 := Aside0.mk (below_row (below_alloc H3.out (.cells #[Value.int IntKind.u32 0, Value.int IntKind.u32 0, Value.int IntKind.u32 0, Value.int IntKind.u32 0, Value.int IntKind.u32 0, Value.int IntKind.u32 0, Value.int IntKind.u32 0, Value.int IntKind.u32 0, Value.int IntKind.u32 0, Value.int IntKind.u32 0, Value.int IntKind.u32 0, Value.int IntKind.u32 0, Value.int IntKind.u32 0, Value.int IntKind.u32 0, Value.int IntKind.u32 0, Value.int IntKind.u32 0, Value.int IntKind.u64 0, Value.int IntKind.u64 0, Value.int IntKind.u64 0, Value.int IntKind.u64 0, Value.int IntKind.u64 0, Value.int IntKind.u64 0, Value.int IntKind.u64 0, Value.int IntKind.u64 0, Value.int IntKind.u32 0, Value.int IntKind.u32 0, Value.int IntKind.u32 0, Value.int IntKind.u32 0, Value.int IntKind.u32 0, Value.int IntKind.u32 0, Value.int IntKind.u32 0, Value.int IntKind.u32 0, Value.int IntKind.u32 0, Value.int IntKind.i64 0, Value.bool false] 31)) (show w.heap.size ≤ w3.heap.size by omega) (vc c2))
  generalize hw4 : (w3.alloc (.cells #[Value.int IntKind.u32 0, Value.int IntKind.u32 0, Value.int IntKind.u32 0, Value.int IntKind.u32 0, Value.int IntKind.u32 0, Value.int IntKind.u32 0, Value.int IntKind.u32 0, Value.int IntKind.u32 0, Value.int IntKind.u32 0, Value.int IntKind.u32 0, Value.int IntKind.u32 0, Value.int IntKind.u32 0, Value.int IntKind.u32 0, Value.int IntKind.u32 0, Value.int IntKind.u32 0, Value.int IntKind.u32 0, Value.int IntKind.u64 0, Value.int IntKind.u64 0, Value.int IntKind.u64 0, Value.int IntKind.u64 0, Value.int IntKind.u64 0, Value.int IntKind.u64 0, Value.int IntKind.u64 0, Value.int IntKind.u64 0, Value.int IntKind.u32 0, Value.int IntKind.u32 0, Value.int IntKind.u32 0, Value.int IntKind.u32 0, Value.int IntKind.u32 0, Value.int IntKind.u32 0, Value.int IntKind.u32 0, Value.int IntKind.u32 0, Value.int IntKind.u32 0, Value.int IntKind.i64 0, Value.bool false] 31)).setRow w3.heap.size (vc c2) = w4 at *
  clear hw4 B3 H3
  generalize w2.heap.size = g1 at *
  generalize w3.heap.size = g2 at *
  have a30 := (blk_cell B4.out 30).trans (get30 c1)
  have b24 := (blk_cell D4.out 24).trans (get24 c2)
  have b28 := (blk_cell D4.out 28).trans (get28 c2)
  have b29 := (blk_cell D4.out 29).trans (get29 c2)
  have v30 : c1.ve = 512 := rfl
  have v24 : c2.pc = 512 := rfl
  have v28 : c2.ep = 256 := rfl
  have v29 : c2.tv = 5 := rfl
  rw [v30] at a30
  rw [v24] at b24
  rw [v28] at b28
  rw [v29] at b29
  clear v30 v24 v28 v29
  go_wp2_with (first | refine ldg rfl _ rfl g2 rfl c2 (by exact D4.out) ?_ | fail)
  refine (enter_calls c2 1 5 _ (by simp [c2]) (by simp [c2])).mono ?_
  rintro e w5 ⟨rfl, hB⟩
  rw [e3]
  have D5 := Aside0.mk (blk_below D4.out hB)
  have H5 := Aside0.mk (below_step H4.out hB)
  have v33 : c3.ha = 2 := rfl
  clear hB a30 b24 b28 b29 B4 D4 H4
  go_wp2_with (first | refine ldg rfl _ rfl g2 rfl c2 (by exact D5.out) ?_ | fail)
  refine (check_calls _ wf2).mono ?_
  rintro e w6 ⟨rfl, hB⟩
  rw [ok2]
  have H6 := Aside0.mk (below_step H5.out hB)
  clear hB
  go_wp2_with fail
  go_ret
  exact ⟨rfl, H6.out⟩
end Go.Proofs.Ythoafohndinbeaa.VcpuWorks
