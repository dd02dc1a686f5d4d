/- Registers and control registers that are read whole out of a context. -/
import Derived.Test.YthoafohndinbeaaVcpuEq
import Derived.Test.YthoafohndinbeaaVcpuLd
import Derived.Deep.MidRow
namespace Go.Proofs.Ythoafohndinbeaa.VcpuLd2
open Go.RowKit Go.Proofs.Ythoafohndinbeaa.VcpuBase Go.Proofs.Ythoafohndinbeaa.VcpuEq Go.Proofs.YthoafohndinbeaaW.PrintWords
set_option maxRecDepth 100000
theorem range_rg {w : World} {g : Nat} {c : Cx} (hg : w.heap[g]? = some (.cells (vc c) 31 (0, 0))) : w.rangeAt g 0 (rg c).toList := by
  intro j v hv
  have hj : j < 25 := (List.getElem?_eq_some_iff.1 hv).1
  rw [Nat.zero_add, blk_cell hg j]
  have e : vc c = rg c ++ (ct c ++ #[.int .i64 c.ha, .bool c.id]) := rfl
  rw [e, Array.getElem?_append_left (show j < (rg c).size from hj)]
  simpa using hv
theorem range_ct {w : World} {g : Nat} {c : Cx} (hg : w.heap[g]? = some (.cells (vc c) 31 (0, 0))) : w.rangeAt g 25 (ct c).toList := by
  intro j v hv
  have hj : j < 8 := (List.getElem?_eq_some_iff.1 hv).1
  rw [blk_cell hg (25 + j)]
  have e : vc c = rg c ++ (ct c ++ #[.int .i64 c.ha, .bool c.id]) := rfl
  have hr : (rg c).size = 25 := rfl
  rw [e, Array.getElem?_append_right (by omega), hr, show 25 + j - 25 = j by omega, Array.getElem?_append_left (show j < (ct c).size from hj)]
  simpa using hv
theorem ldg27 {ops : Array Oper} {rest : List Oper} {o : Oper} {a : Act} {w : World} {Q : Exit → Act → World → Prop} (hgd : Region.wanted o (yielded ops a.tmps) = true) (x : Operand) (ho : o.op = .load 27 x) (g : Nat) (hx : a.eval x = .pointer (some ⟨g, 0, none⟩))
    (c : Cx) (hg : w.heap[g]? = some (.cells (vc c) 31 (0, 0))) (h : wpList Try.prog ops Q rest (a.put o.dst (.agg (rg c))) w) : wpList Try.prog ops Q (o :: rest) a w :=
  wpList_step fun K hK => by
    rw [if_pos hgd]
    exact wp_load_mid 27 x ho g 0 hx (rg c).toList _ (range_rg hg) Try.underlying27 rfl (by kernel_rfl) (hK _ _ (by simpa using h))
theorem ldg29 {ops : Array Oper} {rest : List Oper} {o : Oper} {a : Act} {w : World} {Q : Exit → Act → World → Prop} (hgd : Region.wanted o (yielded ops a.tmps) = true) (x : Operand) (ho : o.op = .load 29 x) (g : Nat) (hx : a.eval x = .pointer (some ⟨g, 25, none⟩))
    (c : Cx) (hg : w.heap[g]? = some (.cells (vc c) 31 (0, 0))) (h : wpList Try.prog ops Q rest (a.put o.dst (.agg (ct c))) w) : wpList Try.prog ops Q (o :: rest) a w :=
  wpList_step fun K hK => by
    rw [if_pos hgd]
    exact wp_load_mid 29 x ho g 25 hx (ct c).toList _ (range_ct hg) Try.underlying29 rfl (by kernel_rfl) (hK _ _ (by simpa using h))
end Go.Proofs.Ythoafohndinbeaa.VcpuLd2
