/- A whole context that is read in a region that draws its order. -/
import Derived.Test.YthoafohndinbeaaVcpuBase
namespace Go.Proofs.Ythoafohndinbeaa.VcpuLd
open Go.RowKit Go.Proofs.Ythoafohndinbeaa.VcpuBase
theorem ld_y {a : Act} {o : Oper} (x : Operand) (ho : o.op = .load 31 x) (g : Nat) (hx : a.eval x = .pointer (some ⟨g, 0, none⟩)) (c : Cx) {w : World} (hg : w.heap[g]? = some (.cells (vc c) 31 (0, 0))) :
    (execOp a.eval o).run Try.prog w = .ok (.value (.agg (vc c))) w := by
  unfold execOp
  simp only [ho, hx, Instr.loadAt, Instr.sureAddr, Sem.run_bind, Sem.run_pure, Result.andThen_ok, run_loadVar_row w g 31 31 (vc c) (0, 0) _ hg Try.underlying31 rfl (by kernel_rfl)]
end Go.Proofs.Ythoafohndinbeaa.VcpuLd
