/- Every Decode; the bytes stay as they are: the walk of the law. -/
import Derived.Test.YthoafohndinbeaaVcpuDecR
namespace Go.Proofs.Ythoafohndinbeaa.LawReads
open Go.RowKit Go.Proofs.Ythoafohndinbeaa.PVcpuBack Go.Proofs.YthoafohndinbeaaW.PrintWords Go.Proofs.YthoafohndinbeaaW.PrintLast Go.Proofs.YthoafohndinbeaaW.PrintMore Go.Proofs.Ythoafohndinbeaa.Aid Go.Proofs.Ythoafohndinbeaa.VcpuBase Go.Proofs.Ythoafohndinbeaa.VcpuCheck Go.Proofs.Ythoafohndinbeaa.VcpuEq Go.Proofs.Ythoafohndinbeaa.VcpuLd Go.Proofs.Ythoafohndinbeaa.VcpuEnc Go.Proofs.Ythoafohndinbeaa.VcpuDec Go.Proofs.Ythoafohndinbeaa.VcpuDecR
attribute [local go_sem high] eqCx cxEq_self
set_option maxHeartbeats 1600000
set_option maxRecDepth 100000
set_option linter.unusedVariables false
theorem row_C {W : World} {A : Option Addr} {n : Nat} {xs : List Int} (h : (Kd.int .u8).C W A n xs) (o : Obj) (cs : Array Value) : (Kd.int .u8).C ((W.alloc o).setRow W.heap.size cs) A n xs :=
  Kd.C_below h (below_row (below_alloc (Below.refl _ _) o) (Nat.le_refl _) cs)
theorem law (A : Option Addr) (cap : Nat) (l : List Int) (w : World) (HC : Aside0 ((Kd.int .u8).C w A l.length l)) (hc : l.length ≤ cap) (hcm : cap ≤ 9223372036854775807) (hl : Aside0 (∀ x ∈ l, 0 ≤ x ∧ x < 256)) (hn : l.length ≤ 140737488351232) :
    Calls Try.prog 6 #[.slice A l.length cap] w fun e w' => e = .returned (.bool true) ∧ Below w.heap.size w w' := by
  have HE := Aside0.mk (lit_row (fun _ => True) w w [] #[] rfl trivial (Nat.le_refl _) (by simp))
  have HB0 := Aside0.mk (below_alloc (Below.refl w.heap.size w) (.cells #[] 5))
  go_enter Try.func6, Try.ntmps6
  go_wp2_with ((with_reducible refine gate_builtin (b := .append) (xs := #[.tmp 8, .tmp 9]) rfl ?_); refine Kd.R_append_row (Value.int .u8) (0 : Int) (w0 := w) w.heap.size rfl (.tmp 8) (.tmp 9) 43 5 (.int .u8 0) 1 rfl Try.underlying43 info5 rfl (by omega) _ [] l A l.length cap (fun _ => True) rfl rfl (fun _ _ => trivial) HE.out (Kd.C_below HC.out HB0.out) HB0.out HB0.out.size (by simp; omega) ?_; intro v1 w1 ho hb hgr _; have HO1 := Aside0.mk ho; have HB1 := Aside0.mk hb; clear ho hb hgr)
  have hown := Kd.own_of_R HO1.out
  obtain ⟨A1, c1, rfl⟩ := Kd.R_slice HO1.out
  obtain ⟨_, hc1, hC1⟩ := Kd.R_reads' HO1.out
  rw [List.nil_append] at hc1 hC1 hown
  have hcm1 : c1 ≤ 9223372036854775807 := by
    rcases hown.2 with ⟨he, _⟩ | ⟨g, cp, cur, he, _, _, _, hm, _⟩
    · injection he with _ _ h3
      omega
    · injection he with _ _ h3
      unfold maxLen at hm
      omega
  have HC1 := Aside0.mk hC1
  clear hown hC1 HO1 HE HB0
  rw [List.nil_append]
  refine (decs A1 c1 l _ HC1.out hc1 hcm1 hl.out hn).1.mono ?_
  rintro e w2 ⟨rfl, hB⟩
  have HB2 := Aside0.mk (below_step HB1.out hB)
  have HC2 := Aside0.mk (Kd.C_below HC1.out hB)
  have l2 := HB2.out.size
  clear hB HB1 HC1
  generalize hR : decR l = R at *
  obtain ⟨x, y⟩ := R
  have HR := Aside0.mk hR
  clear hR
  go_wp2_with (first | refine st rfl _ _ rfl w2.heap.size _ rfl rfl zc (by exact heap_alloc_new _ _) ?_)
  have hz := below_row (below_alloc HB2.out (.cells #[Value.int IntKind.u32 0, Value.int IntKind.u32 0, Value.int IntKind.u32 0, Value.int IntKind.u32 0, Value.int IntKind.u32 0, Value.int IntKind.u32 0, Value.int IntKind.u32 0, Value.int IntKind.u32 0, Value.int IntKind.u32 0, Value.int IntKind.u32 0, Value.int IntKind.u32 0, Value.int IntKind.u32 0, Value.int IntKind.u32 0, Value.int IntKind.u32 0, Value.int IntKind.u32 0, Value.int IntKind.u32 0, Value.int IntKind.u64 0, Value.int IntKind.u64 0, Value.int IntKind.u64 0, Value.int IntKind.u64 0, Value.int IntKind.u64 0, Value.int IntKind.u64 0, Value.int IntKind.u64 0, Value.int IntKind.u64 0, Value.int IntKind.u32 0, Value.int IntKind.u32 0, Value.int IntKind.u32 0, Value.int IntKind.u32 0, Value.int IntKind.u32 0, Value.int IntKind.u32 0, Value.int IntKind.u32 0, Value.int IntKind.u32 0, Value.int IntKind.u32 0, Value.int IntKind.i64 0, Value.bool false] 31)) l2 (vc x)
  refine (decs A cap l _ (Kd.C_below HC.out hz) hc hcm hl.out hn).2.mono ?_
  rintro e w3 ⟨rfl, hB⟩
  rw [HR.out]
  have B3 := Aside0.mk (blk_below (row_new (heap_alloc_new w2 _) (vc x)) hB)
  have HB3 := Aside0.mk (below_step hz hB)
  have HC3 := Aside0.mk (Kd.C_below (row_C HC2.out (.cells #[Value.int IntKind.u32 0, Value.int IntKind.u32 0, Value.int IntKind.u32 0, Value.int IntKind.u32 0, Value.int IntKind.u32 0, Value.int IntKind.u32 0, Value.int IntKind.u32 0, Value.int IntKind.u32 0, Value.int IntKind.u32 0, Value.int IntKind.u32 0, Value.int IntKind.u32 0, Value.int IntKind.u32 0, Value.int IntKind.u32 0, Value.int IntKind.u32 0, Value.int IntKind.u32 0, Value.int IntKind.u32 0, Value.int IntKind.u64 0, Value.int IntKind.u64 0, Value.int IntKind.u64 0, Value.int IntKind.u64 0, Value.int IntKind.u64 0, Value.int IntKind.u64 0, Value.int IntKind.u64 0, Value.int IntKind.u64 0, Value.int IntKind.u32 0, Value.int IntKind.u32 0, Value.int IntKind.u32 0, Value.int IntKind.u32 0, Value.int IntKind.u32 0, Value.int IntKind.u32 0, Value.int IntKind.u32 0, Value.int IntKind.u32 0, Value.int IntKind.u32 0, Value.int IntKind.i64 0, Value.bool false] 31) (vc x)) hB)
  have l3 := blk_lt B3.out
  clear hB hz HB2 HC2
  go_upto_region 4 with (first | refine st rfl _ _ rfl w3.heap.size _ rfl rfl zc (by exact heap_alloc_new _ _) ?_)
  have B4 := Aside0.mk (row_far (blk_alloc B3.out (.cells #[Value.int IntKind.u32 0, Value.int IntKind.u32 0, Value.int IntKind.u32 0, Value.int IntKind.u32 0, Value.int IntKind.u32 0, Value.int IntKind.u32 0, Value.int IntKind.u32 0, Value.int IntKind.u32 0, Value.int IntKind.u32 0, Value.int IntKind.u32 0, Value.int IntKind.u32 0, Value.int IntKind.u32 0, Value.int IntKind.u32 0, Value.int IntKind.u32 0, Value.int IntKind.u32 0, Value.int IntKind.u32 0, Value.int IntKind.u64 0, Value.int IntKind.u64 0, Value.int IntKind.u64 0, Value.int IntKind.u64 0, Value.int IntKind.u64 0, Value.int IntKind.u64 0, Value.int IntKind.u64 0, Value.int IntKind.u64 0, Value.int IntKind.u32 0, Value.int IntKind.u32 0, Value.int IntKind.u32 0, Value.int IntKind.u32 0, Value.int IntKind.u32 0, Value.int IntKind.u32 0, Value.int IntKind.u32 0, Value.int IntKind.u32 0, Value.int IntKind.u32 0, Value.int IntKind.i64 0, Value.bool false] 31)) (vc x) (show w2.heap.size ≠ w3.heap.size by omega))
  have D4 := Aside0.mk (row_new (heap_alloc_new w3 (.cells #[Value.int IntKind.u32 0, Value.int IntKind.u32 0, Value.int IntKind.u32 0, Value.int IntKind.u32 0, Value.int IntKind.u32 0, Value.int IntKind.u32 0, Value.int IntKind.u32 0, Value.int IntKind.u32 0, Value.int IntKind.u32 0, Value.int IntKind.u32 0, Value.int IntKind.u32 0, Value.int IntKind.u32 0, Value.int IntKind.u32 0, Value.int IntKind.u32 0, Value.int IntKind.u32 0, Value.int IntKind.u32 0, Value.int IntKind.u64 0, Value.int IntKind.u64 0, Value.int IntKind.u64 0, Value.int IntKind.u64 0, Value.int IntKind.u64 0, Value.int IntKind.u64 0, Value.int IntKind.u64 0, Value.int IntKind.u64 0, Value.int IntKind.u32 0, Value.int IntKind.u32 0, Value.int IntKind.u32 0, Value.int IntKind.u32 0, Value.int IntKind.u32 0, Value.int IntKind.u32 0, Value.int IntKind.u32 0, Value.int IntKind.u32 0, Value.int IntKind.u32 0, Value.int IntKind.i64 0, Value.bool false] 31)) (vc x))
  have H4 := Aside0.mk (below_row (below_alloc HB3.out (.cells #[Value.int IntKind.u32 0, Value.int IntKind.u32 0, Value.int IntKind.u32 0, Value.int IntKind.u32 0, Value.int IntKind.u32 0, Value.int IntKind.u32 0, Value.int IntKind.u32 0, Value.int IntKind.u32 0, Value.int IntKind.u32 0, Value.int IntKind.u32 0, Value.int IntKind.u32 0, Value.int IntKind.u32 0, Value.int IntKind.u32 0, Value.int IntKind.u32 0, Value.int IntKind.u32 0, Value.int IntKind.u32 0, Value.int IntKind.u64 0, Value.int IntKind.u64 0, Value.int IntKind.u64 0, Value.int IntKind.u64 0, Value.int IntKind.u64 0, Value.int IntKind.u64 0, Value.int IntKind.u64 0, Value.int IntKind.u64 0, Value.int IntKind.u32 0, Value.int IntKind.u32 0, Value.int IntKind.u32 0, Value.int IntKind.u32 0, Value.int IntKind.u32 0, Value.int IntKind.u32 0, Value.int IntKind.u32 0, Value.int IntKind.u32 0, Value.int IntKind.u32 0, Value.int IntKind.i64 0, Value.bool false] 31)) (show w.heap.size ≤ w3.heap.size by omega) (vc x))
  have HC4 := Aside0.mk (row_C HC3.out (.cells #[Value.int IntKind.u32 0, Value.int IntKind.u32 0, Value.int IntKind.u32 0, Value.int IntKind.u32 0, Value.int IntKind.u32 0, Value.int IntKind.u32 0, Value.int IntKind.u32 0, Value.int IntKind.u32 0, Value.int IntKind.u32 0, Value.int IntKind.u32 0, Value.int IntKind.u32 0, Value.int IntKind.u32 0, Value.int IntKind.u32 0, Value.int IntKind.u32 0, Value.int IntKind.u32 0, Value.int IntKind.u32 0, Value.int IntKind.u64 0, Value.int IntKind.u64 0, Value.int IntKind.u64 0, Value.int IntKind.u64 0, Value.int IntKind.u64 0, Value.int IntKind.u64 0, Value.int IntKind.u64 0, Value.int IntKind.u64 0, Value.int IntKind.u32 0, Value.int IntKind.u32 0, Value.int IntKind.u32 0, Value.int IntKind.u32 0, Value.int IntKind.u32 0, Value.int IntKind.u32 0, Value.int IntKind.u32 0, Value.int IntKind.u32 0, Value.int IntKind.u32 0, Value.int IntKind.i64 0, Value.bool false] 31) (vc x))
  generalize hw4 : (w3.alloc (.cells #[Value.int IntKind.u32 0, Value.int IntKind.u32 0, Value.int IntKind.u32 0, Value.int IntKind.u32 0, Value.int IntKind.u32 0, Value.int IntKind.u32 0, Value.int IntKind.u32 0, Value.int IntKind.u32 0, Value.int IntKind.u32 0, Value.int IntKind.u32 0, Value.int IntKind.u32 0, Value.int IntKind.u32 0, Value.int IntKind.u32 0, Value.int IntKind.u32 0, Value.int IntKind.u32 0, Value.int IntKind.u32 0, Value.int IntKind.u64 0, Value.int IntKind.u64 0, Value.int IntKind.u64 0, Value.int IntKind.u64 0, Value.int IntKind.u64 0, Value.int IntKind.u64 0, Value.int IntKind.u64 0, Value.int IntKind.u64 0, Value.int IntKind.u32 0, Value.int IntKind.u32 0, Value.int IntKind.u32 0, Value.int IntKind.u32 0, Value.int IntKind.u32 0, Value.int IntKind.u32 0, Value.int IntKind.u32 0, Value.int IntKind.u32 0, Value.int IntKind.u32 0, Value.int IntKind.i64 0, Value.bool false] 31)).setRow w3.heap.size (vc x) = w4 at *
  clear hw4 B3 HB3 HC3
  have v1 := Kd.C_string (c := c1) Try.underlying43 Try.underlying5 Try.underlying9 HC4.out
  have v2 := Kd.C_string (c := cap) Try.underlying43 Try.underlying5 Try.underlying9 (Kd.C_below HC.out H4.out)
  go_wp2_with (first | refine ld rfl _ rfl w2.heap.size rfl x (by exact B4.out) ?_ | refine ld rfl _ rfl w3.heap.size rfl x (by exact D4.out) ?_)
  go_ret
  exact ⟨rfl, H4.out⟩
theorem walk (a0 : Option Addr) (len0 cap0 : Nat) (z0 : List Int) (w : World)
    (w0 : (a0 = none ∧ len0 = 0 ∧ cap0 = 0 ∧ z0 = []) ∨ ∃ x, a0 = some x ∧ len0 ≤ cap0 ∧ cap0 ≤ maxLen ∧ z0.length = cap0 ∧ (∀ i, i < z0.length → w.cell? (x.add i) = some (.int .u8 (z0.getD i 0))) ∧ ∀ n ∈ z0, (Lit.int .u8 n).wf = true) (y0 : len0 * 1 ≤ 140737488351232) :
    Calls Try.prog 6 #[.slice a0 len0 cap0] w fun e w' => e = .returned (.bool true) ∧ Below w.heap.size w w' := by
  have hcm : cap0 ≤ 9223372036854775807 := by
    rcases w0 with ⟨_, _, h, _⟩ | ⟨_, _, _, h, _⟩
    · omega
    · unfold maxLen at h
      omega
  obtain ⟨l, rfl, hr, hm, hw, hc⟩ := ReadsInt.ofRowC w0
  exact law a0 cap0 l w ⟨Kd.C_of_reads (d := (0 : Int)) (h1 := fun _ => rfl) hr⟩ hc hcm ⟨fun x hx => u8_bd (hw x hx)⟩ (by omega)
end Go.Proofs.Ythoafohndinbeaa.LawReads
