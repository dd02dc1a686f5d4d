/- Every Control and Set: the walk of the law. -/
import Derived.Test.YthoafohndinbeaaVcpuSet
import Derived.Test.YthoafohndinbeaaVcpuEq
namespace Go.Proofs.Ythoafohndinbeaa.LawControls
open Go.RowKit Go.Proofs.Ythoafohndinbeaa.PVcpuBack Go.Proofs.YthoafohndinbeaaW.PrintWords Go.Proofs.YthoafohndinbeaaW.PrintLast Go.Proofs.YthoafohndinbeaaW.PrintMore Go.Proofs.Ythoafohndinbeaa.Aid Go.Proofs.Ythoafohndinbeaa.VcpuBase Go.Proofs.Ythoafohndinbeaa.VcpuCheck Go.Proofs.Ythoafohndinbeaa.VcpuReg Go.Proofs.Ythoafohndinbeaa.VcpuSet Go.Proofs.Ythoafohndinbeaa.VcpuEq
attribute [local go_sem high] eqCx cxEq_self
set_option maxHeartbeats 1600000
set_option maxRecDepth 100000
set_option linter.unusedVariables false
theorem law (c : Cx) (n v t : Int) (w : World) (v0 : 0 ≤ v) (v1 : v < 4294967296) :
    Calls Try.prog 3 #[.agg (vc c), .int .i64 n, .int .u32 v, .int .u32 t] w fun e w' => e = .returned (.bool true) ∧ Below w.heap.size w w' := by
  go_enter Try.func3, Try.ntmps3
  go_wp2_with (refine ld rfl _ rfl w.heap.size rfl c (by with_reducible exact heap_alloc_new _ _) ?_)
  refine (control_calls c n v t _).mono ?_
  rintro e w1 ⟨rfl, hB⟩
  have B1 := Aside0.mk ((hB.block w.heap.size (by simp)).trans (heap_alloc_new w _))
  have H1 := Aside0.mk ((below_alloc (Below.refl w.heap.size w) _).trans (hB.mono (by simp)))
  clear hB
  go_wp2_with (refine ld rfl _ rfl w.heap.size rfl c (by with_reducible exact B1.out) ?_)
  refine (rcontrol_calls c n v t _).mono ?_
  rintro e w2 ⟨rfl, hB⟩
  have B2 := Aside0.mk (blk_below B1.out hB)
  have H2 := Aside0.mk (below_step H1.out hB)
  clear hB
  go_wp2_with (refine ld rfl _ rfl w.heap.size rfl c (by with_reducible exact B2.out) ?_)
  refine (set_calls c n v _ v0 v1).mono ?_
  rintro e w3 ⟨rfl, hB⟩
  have B3 := Aside0.mk (blk_below B2.out hB)
  have H3 := Aside0.mk (below_step H2.out hB)
  have l3 := blk_lt B3.out
  clear hB
  go_wp2_with (first | refine ld rfl _ rfl w.heap.size rfl c (by exact row_far (blk_alloc B3.out _) _ (by omega)) ?_ | refine st rfl _ _ rfl w3.heap.size _ rfl rfl zc (by exact heap_alloc_new _ _) ?_)
  refine (rset_calls c n v _ v0 v1).mono ?_
  rintro e w4 ⟨rfl, hB⟩
  have D4 := Aside0.mk (blk_below (row_new (heap_alloc_new w3 _) (vc (setC c n v))) hB)
  have H4 := Aside0.mk (below_step (below_row (below_alloc H3.out _) (by omega) _) hB)
  have l4 := blk_lt D4.out
  clear hB
  go_wp2_with (first | refine ldg rfl _ rfl w3.heap.size rfl _ (by exact row_far (blk_alloc D4.out _) _ (by omega)) ?_ | refine ldg rfl _ rfl w4.heap.size rfl _ (by exact row_new (heap_alloc_new _ _) _) ?_ | refine st rfl _ _ rfl w4.heap.size _ rfl rfl zc (by exact heap_alloc_new _ _) ?_)
  go_ret
  exact ⟨rfl, below_row (below_alloc H4.out _) (by omega) _⟩
theorem walk (v0 : Value) (n v t : Int) (w : World) (h0 : ∃ c : Cx, v0 = .agg (vc c) ∧ Wf c) (h1 : (Lit.int .i64 n).wf = true) (h2 : (Lit.int .u32 v).wf = true) (h3 : (Lit.int .u32 t).wf = true) :
    Calls Try.prog 3 #[v0, .int .i64 n, .int .u32 v, .int .u32 t] w fun e w' => e = .returned (.bool true) ∧ Below w.heap.size w w' := by
  obtain ⟨c, rfl, hf⟩ := h0
  obtain ⟨a, b⟩ := u32_bd h2
  exact law c n v t w a b
end Go.Proofs.Ythoafohndinbeaa.LawControls
