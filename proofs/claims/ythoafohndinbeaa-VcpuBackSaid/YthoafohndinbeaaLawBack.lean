/- There and back: the walk of the law. -/
import Derived.Test.YthoafohndinbeaaVcpuBackPure
import Derived.Test.YthoafohndinbeaaVcpuWorks
import Derived.Deep.DeepCutAuto
import Derived.Deep.CutBlock
namespace Go.Proofs.Ythoafohndinbeaa.LawBack
open Go.RowKit Go.Proofs.Ythoafohndinbeaa.PVcpuBack Go.Proofs.YthoafohndinbeaaW.PrintWords Go.Proofs.YthoafohndinbeaaW.PrintLast Go.Proofs.YthoafohndinbeaaW.PrintMore Go.Proofs.Ythoafohndinbeaa.Aid Go.Proofs.Ythoafohndinbeaa.VcpuBase Go.Proofs.Ythoafohndinbeaa.VcpuCheck Go.Proofs.Ythoafohndinbeaa.VcpuEq Go.Proofs.Ythoafohndinbeaa.VcpuLd Go.Proofs.Ythoafohndinbeaa.VcpuLd2 Go.Proofs.Ythoafohndinbeaa.VcpuEnc Go.Proofs.Ythoafohndinbeaa.VcpuREnc Go.Proofs.Ythoafohndinbeaa.VcpuDec Go.Proofs.Ythoafohndinbeaa.VcpuDecR Go.Proofs.Ythoafohndinbeaa.VcpuEnter Go.Proofs.Ythoafohndinbeaa.VcpuWorks Go.Proofs.Ythoafohndinbeaa.VcpuBackPure
open Go.Proofs.Ythoafohndinbeaa.VcpuWants (canB wV Least want_calls least)
theorem neZ (d : Nat) (w : World) : (Op.equalIn (d + 4) 31 (.agg (vc zc)) (.agg #[Value.int IntKind.u32 0, Value.int IntKind.u32 0, Value.int IntKind.u32 0, Value.int IntKind.u32 0, Value.int IntKind.u32 0, Value.int IntKind.u32 0, Value.int IntKind.u32 0, Value.int IntKind.u32 0, Value.int IntKind.u32 0, Value.int IntKind.u32 0, Value.int IntKind.u32 0, Value.int IntKind.u32 0, Value.int IntKind.u32 0, Value.int IntKind.u32 0, Value.int IntKind.u32 0, Value.int IntKind.u32 0, Value.int IntKind.u64 0, Value.int IntKind.u64 0, Value.int IntKind.u64 0, Value.int IntKind.u64 0, Value.int IntKind.u64 0, Value.int IntKind.u64 0, Value.int IntKind.u64 0, Value.int IntKind.u64 0, Value.int IntKind.u32 0, Value.int IntKind.u32 0, Value.int IntKind.u32 0, Value.int IntKind.u32 0, Value.int IntKind.u32 0, Value.int IntKind.u32 0, Value.int IntKind.u32 0, Value.int IntKind.u32 0, Value.int IntKind.u32 0, Value.int IntKind.i64 0, Value.bool false])).run Try.prog w = .ok true w := (eqCx d w zc zc).trans (by rw [cxEq_self])
attribute [local go_sem high] eqCx eqRg eqCt neZ cxEq_self regsEq_self ctlEq_self
set_option maxHeartbeats 3200000
set_option maxRecDepth 100000
set_option linter.unusedVariables false
theorem want255 (c : Cx) (w : World) (M n : Nat) (hf : Wf c) (hM : c.ma = (M : Int)) (M1 : M < 4294967296) (hL : Least (255 &&& M) n) (hc : canB c = false) : Calls Try.prog 15 #[.agg (vc c), .int .u32 255] w fun e w' => e = .returned (.tuple #[.int .i64 0, .bool false]) ∧ Below w.heap.size w w' := by
  have h := want_calls c w 255 M n hf hM (by omega) M1 hL
  have e1 : wV (canB c) n = 0 := by
    rw [hc]
    rfl
  have e2 : VcpuWants.wB (canB c) n = false := by
    rw [hc]
    rfl
  rw [e1, e2] at h
  exact h
section
variable (c : Cx) (n tv : Int) (A : Option Addr) (cap : Nat) (l : List Int) (x : Cx) (y : Int) (w : World)

theorem back_ok_no (hf : Wf c) (t0 : 0 ≤ tv) (t1 : tv < 4294967296) (HC : Aside0 ((Kd.int .u8).C w A l.length l)) (hc : l.length ≤ cap) (hl : Aside0 (∀ x ∈ l, 0 ≤ x ∧ x < 256)) (hn : l.length ≤ 140737488351232) (HX : Aside0 (decR l = (x, 0))) (hfx : Wf x) (HL : Aside0 (encL x = l)) (HK : Aside0 (checkC x = 0)) (HCK : Aside0 (checkC c = 6)) (HEL : Aside0 (encL c = [])) :
    Calls Try.prog 10 #[.agg (vc c), .int .i64 n, .int .u32 tv, .slice A l.length cap] w fun e w' => e = .returned (.bool true) ∧ Below w.heap.size w w' := by
  go_enter Try.func10, Try.ntmps10
  go_wp2_with fail
  refine (works_calls _).mono ?_
  rintro e w1 ⟨rfl, hB⟩
  have B1 := Aside0.mk ((hB.block w.heap.size (by simp)).trans (heap_alloc_new w _))
  have H1 := Aside0.mk ((below_alloc (Below.refl w.heap.size w) _).trans (hB.mono (by simp)))
  clear hB
  go_wp2_with fail
  refine (decs A cap l _ (Kd.C_below HC.out H1.out) hc hl.out hn).1.mono ?_
  rintro e w2 ⟨rfl, hB⟩
  rw [HX.out]
  have B2 := Aside0.mk (blk_below B1.out hB)
  have H2 := Aside0.mk (below_step H1.out hB)
  have l2 := blk_lt B2.out
  clear hB B1 H1
  go_wp2_with (first | refine ld rfl _ rfl w2.heap.size rfl x (by exact row_new (heap_alloc_new _ _) _) ?_ | refine st rfl _ _ rfl w2.heap.size _ rfl rfl zc (by exact heap_alloc_new _ _) ?_)
  refine (enc_calls x _ hfx).mono ?_
  rintro e w3 ⟨A3, k3, rfl, hk3, hC3, hB⟩
  rw [HL.out] at hC3 ⊢
  rw [HK.out]
  have B3 := Aside0.mk (blk_below (row_far (blk_alloc B2.out (.cells #[Value.int IntKind.u32 0, Value.int IntKind.u32 0, Value.int IntKind.u32 0, Value.int IntKind.u32 0, Value.int IntKind.u32 0, Value.int IntKind.u32 0, Value.int IntKind.u32 0, Value.int IntKind.u32 0, Value.int IntKind.u32 0, Value.int IntKind.u32 0, Value.int IntKind.u32 0, Value.int IntKind.u32 0, Value.int IntKind.u32 0, Value.int IntKind.u32 0, Value.int IntKind.u32 0, Value.int IntKind.u32 0, Value.int IntKind.u64 0, Value.int IntKind.u64 0, Value.int IntKind.u64 0, Value.int IntKind.u64 0, Value.int IntKind.u64 0, Value.int IntKind.u64 0, Value.int IntKind.u64 0, Value.int IntKind.u64 0, Value.int IntKind.u32 0, Value.int IntKind.u32 0, Value.int IntKind.u32 0, Value.int IntKind.u32 0, Value.int IntKind.u32 0, Value.int IntKind.u32 0, Value.int IntKind.u32 0, Value.int IntKind.u32 0, Value.int IntKind.u32 0, Value.int IntKind.i64 0, Value.bool false] 31)) (vc x) (show w.heap.size ≠ w2.heap.size by omega)) hB)
  have D3 := Aside0.mk (blk_below (row_new (heap_alloc_new w2 (.cells #[Value.int IntKind.u32 0, Value.int IntKind.u32 0, Value.int IntKind.u32 0, Value.int IntKind.u32 0, Value.int IntKind.u32 0, Value.int IntKind.u32 0, Value.int IntKind.u32 0, Value.int IntKind.u32 0, Value.int IntKind.u32 0, Value.int IntKind.u32 0, Value.int IntKind.u32 0, Value.int IntKind.u32 0, Value.int IntKind.u32 0, Value.int IntKind.u32 0, Value.int IntKind.u32 0, Value.int IntKind.u32 0, Value.int IntKind.u64 0, Value.int IntKind.u64 0, Value.int IntKind.u64 0, Value.int IntKind.u64 0, Value.int IntKind.u64 0, Value.int IntKind.u64 0, Value.int IntKind.u64 0, Value.int IntKind.u64 0, Value.int IntKind.u32 0, Value.int IntKind.u32 0, Value.int IntKind.u32 0, Value.int IntKind.u32 0, Value.int IntKind.u32 0, Value.int IntKind.u32 0, Value.int IntKind.u32 0, Value.int IntKind.u32 0, Value.int IntKind.u32 0, Value.int IntKind.i64 0, Value.bool false] 31)) (vc x)) hB)
  have H3 := Aside0.mk (below_step (below_row (below_alloc H2.out (.cells #[Value.int IntKind.u32 0, Value.int IntKind.u32 0, Value.int IntKind.u32 0, Value.int IntKind.u32 0, Value.int IntKind.u32 0, Value.int IntKind.u32 0, Value.int IntKind.u32 0, Value.int IntKind.u32 0, Value.int IntKind.u32 0, Value.int IntKind.u32 0, Value.int IntKind.u32 0, Value.int IntKind.u32 0, Value.int IntKind.u32 0, Value.int IntKind.u32 0, Value.int IntKind.u32 0, Value.int IntKind.u32 0, Value.int IntKind.u64 0, Value.int IntKind.u64 0, Value.int IntKind.u64 0, Value.int IntKind.u64 0, Value.int IntKind.u64 0, Value.int IntKind.u64 0, Value.int IntKind.u64 0, Value.int IntKind.u64 0, Value.int IntKind.u32 0, Value.int IntKind.u32 0, Value.int IntKind.u32 0, Value.int IntKind.u32 0, Value.int IntKind.u32 0, Value.int IntKind.u32 0, Value.int IntKind.u32 0, Value.int IntKind.u32 0, Value.int IntKind.u32 0, Value.int IntKind.i64 0, Value.bool false] 31)) (show w.heap.size ≤ w2.heap.size by omega) (vc x)) hB)
  have v1 := Kd.C_string (c := k3) Try.underlying43 Try.underlying5 Try.underlying9 hC3
  have v2 := Kd.C_string (c := cap) Try.underlying43 Try.underlying5 Try.underlying9 (Kd.C_below HC.out H3.out)
  clear hB hC3 B2 H2 hk3
  go_wp2_with (first | refine ldg rfl _ rfl w2.heap.size rfl x (by exact D3.out) ?_)
  refine (check_calls _ hfx).mono ?_
  rintro e w4 ⟨rfl, hB⟩
  rw [HK.out]
  have B4 := Aside0.mk (blk_below B3.out hB)
  have H4 := Aside0.mk (below_step H3.out hB)
  clear hB B3 H3 D3 v1 v2
  go_wp2_with (first | refine ld rfl _ rfl w.heap.size rfl c (by exact B4.out) ?_)
  refine (enc_calls c _ hf).mono ?_
  rintro e w5 ⟨A5, k5, rfl, hk5, hC5, hB⟩
  rw [HEL.out] at hC5 hk5 ⊢
  rw [HCK.out]
  have C5 := Aside0.mk hC5
  have B5 := Aside0.mk (blk_below B4.out hB)
  have H5 := Aside0.mk (below_step H4.out hB)
  clear hB hC5 B4 H4
  go_wp2_with (first | refine ld rfl _ rfl w.heap.size rfl c (by exact B5.out) ?_)
  refine (check_calls _ hf).mono ?_
  rintro e w6 ⟨rfl, hB⟩
  rw [HCK.out]
  have H6 := Aside0.mk (below_step H5.out hB)
  clear hB B5 H5
  go_wp2_with fail
  go_ret
  exact ⟨rfl, H6.out⟩

theorem back_ok_1 (hf : Wf c) (t0 : 0 ≤ tv) (t1 : tv < 4294967296) (HC : Aside0 ((Kd.int .u8).C w A l.length l)) (hc : l.length ≤ cap) (hl : Aside0 (∀ x ∈ l, 0 ≤ x ∧ x < 256)) (hn : l.length ≤ 140737488351232) (HX : Aside0 (decR l = (x, 0))) (hfx : Wf x) (HL : Aside0 (encL x = l)) (HK : Aside0 (checkC x = 0)) (HCK : Aside0 (checkC c = 0)) (HEL : Aside0 (encL c = encB c)) (x2 : Cx) (HX2 : Aside0 (decR (encB c) = (x2, 0))) (q2 : cxEq x2 c = true) (d : Cx) (HD : Aside0 (enterC c n tv = d)) (hfd : Wf d) (HDK : Aside0 (checkC d = 0)) (HCAN : Aside0 (canB d = false)) (M m : Nat) (HM : Aside0 (d.ma = (M : Int))) (M1 : M < 4294967296) (HLE : Aside0 (Least (255 &&& M) m)) (p0 : (c.ha == 0) = false) (p0n : (c.ha != 0) = true) (r0 : regsEq d c = true) (r1 : ctlEq d c = true) :
    Calls Try.prog 10 #[.agg (vc c), .int .i64 n, .int .u32 tv, .slice A l.length cap] w fun e w' => e = .returned (.bool true) ∧ Below w.heap.size w w' := by
  go_enter Try.func10, Try.ntmps10
  go_wp2_with fail
  refine (works_calls _).mono ?_
  rintro e w1 ⟨rfl, hB⟩
  have B1 := Aside0.mk ((hB.block w.heap.size (by simp)).trans (heap_alloc_new w _))
  have H1 := Aside0.mk ((below_alloc (Below.refl w.heap.size w) _).trans (hB.mono (by simp)))
  clear hB
  go_wp2_with fail
  refine (decs A cap l _ (Kd.C_below HC.out H1.out) hc hl.out hn).1.mono ?_
  rintro e w2 ⟨rfl, hB⟩
  rw [HX.out]
  have B2 := Aside0.mk (blk_below B1.out hB)
  have H2 := Aside0.mk (below_step H1.out hB)
  have l2 := blk_lt B2.out
  clear hB B1 H1
  go_wp2_with (first | refine ld rfl _ rfl w2.heap.size rfl x (by exact row_new (heap_alloc_new _ _) _) ?_ | refine st rfl _ _ rfl w2.heap.size _ rfl rfl zc (by exact heap_alloc_new _ _) ?_)
  refine (enc_calls x _ hfx).mono ?_
  rintro e w3 ⟨A3, k3, rfl, hk3, hC3, hB⟩
  rw [HL.out] at hC3 ⊢
  rw [HK.out]
  have B3 := Aside0.mk (blk_below (row_far (blk_alloc B2.out (.cells #[Value.int IntKind.u32 0, Value.int IntKind.u32 0, Value.int IntKind.u32 0, Value.int IntKind.u32 0, Value.int IntKind.u32 0, Value.int IntKind.u32 0, Value.int IntKind.u32 0, Value.int IntKind.u32 0, Value.int IntKind.u32 0, Value.int IntKind.u32 0, Value.int IntKind.u32 0, Value.int IntKind.u32 0, Value.int IntKind.u32 0, Value.int IntKind.u32 0, Value.int IntKind.u32 0, Value.int IntKind.u32 0, Value.int IntKind.u64 0, Value.int IntKind.u64 0, Value.int IntKind.u64 0, Value.int IntKind.u64 0, Value.int IntKind.u64 0, Value.int IntKind.u64 0, Value.int IntKind.u64 0, Value.int IntKind.u64 0, Value.int IntKind.u32 0, Value.int IntKind.u32 0, Value.int IntKind.u32 0, Value.int IntKind.u32 0, Value.int IntKind.u32 0, Value.int IntKind.u32 0, Value.int IntKind.u32 0, Value.int IntKind.u32 0, Value.int IntKind.u32 0, Value.int IntKind.i64 0, Value.bool false] 31)) (vc x) (show w.heap.size ≠ w2.heap.size by omega)) hB)
  have D3 := Aside0.mk (blk_below (row_new (heap_alloc_new w2 (.cells #[Value.int IntKind.u32 0, Value.int IntKind.u32 0, Value.int IntKind.u32 0, Value.int IntKind.u32 0, Value.int IntKind.u32 0, Value.int IntKind.u32 0, Value.int IntKind.u32 0, Value.int IntKind.u32 0, Value.int IntKind.u32 0, Value.int IntKind.u32 0, Value.int IntKind.u32 0, Value.int IntKind.u32 0, Value.int IntKind.u32 0, Value.int IntKind.u32 0, Value.int IntKind.u32 0, Value.int IntKind.u32 0, Value.int IntKind.u64 0, Value.int IntKind.u64 0, Value.int IntKind.u64 0, Value.int IntKind.u64 0, Value.int IntKind.u64 0, Value.int IntKind.u64 0, Value.int IntKind.u64 0, Value.int IntKind.u64 0, Value.int IntKind.u32 0, Value.int IntKind.u32 0, Value.int IntKind.u32 0, Value.int IntKind.u32 0, Value.int IntKind.u32 0, Value.int IntKind.u32 0, Value.int IntKind.u32 0, Value.int IntKind.u32 0, Value.int IntKind.u32 0, Value.int IntKind.i64 0, Value.bool false] 31)) (vc x)) hB)
  have H3 := Aside0.mk (below_step (below_row (below_alloc H2.out (.cells #[Value.int IntKind.u32 0, Value.int IntKind.u32 0, Value.int IntKind.u32 0, Value.int IntKind.u32 0, Value.int IntKind.u32 0, Value.int IntKind.u32 0, Value.int IntKind.u32 0, Value.int IntKind.u32 0, Value.int IntKind.u32 0, Value.int IntKind.u32 0, Value.int IntKind.u32 0, Value.int IntKind.u32 0, Value.int IntKind.u32 0, Value.int IntKind.u32 0, Value.int IntKind.u32 0, Value.int IntKind.u32 0, Value.int IntKind.u64 0, Value.int IntKind.u64 0, Value.int IntKind.u64 0, Value.int IntKind.u64 0, Value.int IntKind.u64 0, Value.int IntKind.u64 0, Value.int IntKind.u64 0, Value.int IntKind.u64 0, Value.int IntKind.u32 0, Value.int IntKind.u32 0, Value.int IntKind.u32 0, Value.int IntKind.u32 0, Value.int IntKind.u32 0, Value.int IntKind.u32 0, Value.int IntKind.u32 0, Value.int IntKind.u32 0, Value.int IntKind.u32 0, Value.int IntKind.i64 0, Value.bool false] 31)) (show w.heap.size ≤ w2.heap.size by omega) (vc x)) hB)
  have v1 := Kd.C_string (c := k3) Try.underlying43 Try.underlying5 Try.underlying9 hC3
  have v2 := Kd.C_string (c := cap) Try.underlying43 Try.underlying5 Try.underlying9 (Kd.C_below HC.out H3.out)
  clear hB hC3 B2 H2 hk3
  go_wp2_with (first | refine ldg rfl _ rfl w2.heap.size rfl x (by exact D3.out) ?_)
  refine (check_calls _ hfx).mono ?_
  rintro e w4 ⟨rfl, hB⟩
  rw [HK.out]
  have B4 := Aside0.mk (blk_below B3.out hB)
  have H4 := Aside0.mk (below_step H3.out hB)
  clear hB B3 H3 D3 v1 v2
  go_wp2_with (first | refine ld rfl _ rfl w.heap.size rfl c (by exact B4.out) ?_)
  refine (enc_calls c _ hf).mono ?_
  rintro e w5 ⟨A5, k5, rfl, hk5, hC5, hB⟩
  rw [HEL.out] at hC5 hk5 ⊢
  rw [HCK.out]
  have C5 := Aside0.mk hC5
  have B5 := Aside0.mk (blk_below B4.out hB)
  have H5 := Aside0.mk (below_step H4.out hB)
  clear hB hC5 B4 H4
  go_wp2_with fail
  refine (decs A5 k5 (encB c) _ C5.out hk5 (enc_bytes c) (by rw [enc_len]; omega)).1.mono ?_
  rintro e w6 ⟨rfl, hB⟩
  rw [HX2.out, enc_len]
  have B6 := Aside0.mk (blk_below B5.out hB)
  have H6 := Aside0.mk (below_step H5.out hB)
  have l6 := blk_lt B6.out
  clear hB B5 H5 C5 hk5
  go_wp2_with (first | refine ld rfl _ rfl w.heap.size rfl c (by exact row_far (blk_alloc B6.out _) _ (by omega)) ?_ | refine st rfl _ _ rfl w6.heap.size _ rfl rfl zc (by exact heap_alloc_new _ _) ?_)
  refine (enter_calls c n tv _ hf.st.1 hf.st.2).mono ?_
  rintro e w7 ⟨rfl, hB⟩
  rw [HD.out]
  have B7 := Aside0.mk (blk_below (row_far (blk_alloc B6.out (.cells #[Value.int IntKind.u32 0, Value.int IntKind.u32 0, Value.int IntKind.u32 0, Value.int IntKind.u32 0, Value.int IntKind.u32 0, Value.int IntKind.u32 0, Value.int IntKind.u32 0, Value.int IntKind.u32 0, Value.int IntKind.u32 0, Value.int IntKind.u32 0, Value.int IntKind.u32 0, Value.int IntKind.u32 0, Value.int IntKind.u32 0, Value.int IntKind.u32 0, Value.int IntKind.u32 0, Value.int IntKind.u32 0, Value.int IntKind.u64 0, Value.int IntKind.u64 0, Value.int IntKind.u64 0, Value.int IntKind.u64 0, Value.int IntKind.u64 0, Value.int IntKind.u64 0, Value.int IntKind.u64 0, Value.int IntKind.u64 0, Value.int IntKind.u32 0, Value.int IntKind.u32 0, Value.int IntKind.u32 0, Value.int IntKind.u32 0, Value.int IntKind.u32 0, Value.int IntKind.u32 0, Value.int IntKind.u32 0, Value.int IntKind.u32 0, Value.int IntKind.u32 0, Value.int IntKind.i64 0, Value.bool false] 31)) (vc x2) (show w.heap.size ≠ w6.heap.size by omega)) hB)
  have X7 := Aside0.mk (blk_below (row_new (heap_alloc_new w6 (.cells #[Value.int IntKind.u32 0, Value.int IntKind.u32 0, Value.int IntKind.u32 0, Value.int IntKind.u32 0, Value.int IntKind.u32 0, Value.int IntKind.u32 0, Value.int IntKind.u32 0, Value.int IntKind.u32 0, Value.int IntKind.u32 0, Value.int IntKind.u32 0, Value.int IntKind.u32 0, Value.int IntKind.u32 0, Value.int IntKind.u32 0, Value.int IntKind.u32 0, Value.int IntKind.u32 0, Value.int IntKind.u32 0, Value.int IntKind.u64 0, Value.int IntKind.u64 0, Value.int IntKind.u64 0, Value.int IntKind.u64 0, Value.int IntKind.u64 0, Value.int IntKind.u64 0, Value.int IntKind.u64 0, Value.int IntKind.u64 0, Value.int IntKind.u32 0, Value.int IntKind.u32 0, Value.int IntKind.u32 0, Value.int IntKind.u32 0, Value.int IntKind.u32 0, Value.int IntKind.u32 0, Value.int IntKind.u32 0, Value.int IntKind.u32 0, Value.int IntKind.u32 0, Value.int IntKind.i64 0, Value.bool false] 31)) (vc x2)) hB)
  have H7 := Aside0.mk (below_step (below_row (below_alloc H6.out (.cells #[Value.int IntKind.u32 0, Value.int IntKind.u32 0, Value.int IntKind.u32 0, Value.int IntKind.u32 0, Value.int IntKind.u32 0, Value.int IntKind.u32 0, Value.int IntKind.u32 0, Value.int IntKind.u32 0, Value.int IntKind.u32 0, Value.int IntKind.u32 0, Value.int IntKind.u32 0, Value.int IntKind.u32 0, Value.int IntKind.u32 0, Value.int IntKind.u32 0, Value.int IntKind.u32 0, Value.int IntKind.u32 0, Value.int IntKind.u64 0, Value.int IntKind.u64 0, Value.int IntKind.u64 0, Value.int IntKind.u64 0, Value.int IntKind.u64 0, Value.int IntKind.u64 0, Value.int IntKind.u64 0, Value.int IntKind.u64 0, Value.int IntKind.u32 0, Value.int IntKind.u32 0, Value.int IntKind.u32 0, Value.int IntKind.u32 0, Value.int IntKind.u32 0, Value.int IntKind.u32 0, Value.int IntKind.u32 0, Value.int IntKind.u32 0, Value.int IntKind.u32 0, Value.int IntKind.i64 0, Value.bool false] 31)) (show w.heap.size ≤ w6.heap.size by omega) (vc x2)) hB)
  have l7 := blk_lt X7.out
  clear hB B6 H6
  go_upto_region 15 with (first | refine st rfl _ _ rfl w7.heap.size _ rfl rfl zc (by exact heap_alloc_new _ _) ?_)
  have B8 := Aside0.mk (row_far (blk_alloc B7.out (.cells #[Value.int IntKind.u32 0, Value.int IntKind.u32 0, Value.int IntKind.u32 0, Value.int IntKind.u32 0, Value.int IntKind.u32 0, Value.int IntKind.u32 0, Value.int IntKind.u32 0, Value.int IntKind.u32 0, Value.int IntKind.u32 0, Value.int IntKind.u32 0, Value.int IntKind.u32 0, Value.int IntKind.u32 0, Value.int IntKind.u32 0, Value.int IntKind.u32 0, Value.int IntKind.u32 0, Value.int IntKind.u32 0, Value.int IntKind.u64 0, Value.int IntKind.u64 0, Value.int IntKind.u64 0, Value.int IntKind.u64 0, Value.int IntKind.u64 0, Value.int IntKind.u64 0, Value.int IntKind.u64 0, Value.int IntKind.u64 0, Value.int IntKind.u32 0, Value.int IntKind.u32 0, Value.int IntKind.u32 0, Value.int IntKind.u32 0, Value.int IntKind.u32 0, Value.int IntKind.u32 0, Value.int IntKind.u32 0, Value.int IntKind.u32 0, Value.int IntKind.u32 0, Value.int IntKind.i64 0, Value.bool false] 31)) (vc d) (show w.heap.size ≠ w7.heap.size by omega))
  have X8 := Aside0.mk (row_far (blk_alloc X7.out (.cells #[Value.int IntKind.u32 0, Value.int IntKind.u32 0, Value.int IntKind.u32 0, Value.int IntKind.u32 0, Value.int IntKind.u32 0, Value.int IntKind.u32 0, Value.int IntKind.u32 0, Value.int IntKind.u32 0, Value.int IntKind.u32 0, Value.int IntKind.u32 0, Value.int IntKind.u32 0, Value.int IntKind.u32 0, Value.int IntKind.u32 0, Value.int IntKind.u32 0, Value.int IntKind.u32 0, Value.int IntKind.u32 0, Value.int IntKind.u64 0, Value.int IntKind.u64 0, Value.int IntKind.u64 0, Value.int IntKind.u64 0, Value.int IntKind.u64 0, Value.int IntKind.u64 0, Value.int IntKind.u64 0, Value.int IntKind.u64 0, Value.int IntKind.u32 0, Value.int IntKind.u32 0, Value.int IntKind.u32 0, Value.int IntKind.u32 0, Value.int IntKind.u32 0, Value.int IntKind.u32 0, Value.int IntKind.u32 0, Value.int IntKind.u32 0, Value.int IntKind.u32 0, Value.int IntKind.i64 0, Value.bool false] 31)) (vc d) (show w6.heap.size ≠ w7.heap.size by omega))
  have D8 := Aside0.mk (row_new (heap_alloc_new w7 (.cells #[Value.int IntKind.u32 0, Value.int IntKind.u32 0, Value.int IntKind.u32 0, Value.int IntKind.u32 0, Value.int IntKind.u32 0, Value.int IntKind.u32 0, Value.int IntKind.u32 0, Value.int IntKind.u32 0, Value.int IntKind.u32 0, Value.int IntKind.u32 0, Value.int IntKind.u32 0, Value.int IntKind.u32 0, Value.int IntKind.u32 0, Value.int IntKind.u32 0, Value.int IntKind.u32 0, Value.int IntKind.u32 0, Value.int IntKind.u64 0, Value.int IntKind.u64 0, Value.int IntKind.u64 0, Value.int IntKind.u64 0, Value.int IntKind.u64 0, Value.int IntKind.u64 0, Value.int IntKind.u64 0, Value.int IntKind.u64 0, Value.int IntKind.u32 0, Value.int IntKind.u32 0, Value.int IntKind.u32 0, Value.int IntKind.u32 0, Value.int IntKind.u32 0, Value.int IntKind.u32 0, Value.int IntKind.u32 0, Value.int IntKind.u32 0, Value.int IntKind.u32 0, Value.int IntKind.i64 0, Value.bool false] 31)) (vc d))
  have H8 := Aside0.mk (below_row (below_alloc H7.out (.cells #[Value.int IntKind.u32 0, Value.int IntKind.u32 0, Value.int IntKind.u32 0, Value.int IntKind.u32 0, Value.int IntKind.u32 0, Value.int IntKind.u32 0, Value.int IntKind.u32 0, Value.int IntKind.u32 0, Value.int IntKind.u32 0, Value.int IntKind.u32 0, Value.int IntKind.u32 0, Value.int IntKind.u32 0, Value.int IntKind.u32 0, Value.int IntKind.u32 0, Value.int IntKind.u32 0, Value.int IntKind.u32 0, Value.int IntKind.u64 0, Value.int IntKind.u64 0, Value.int IntKind.u64 0, Value.int IntKind.u64 0, Value.int IntKind.u64 0, Value.int IntKind.u64 0, Value.int IntKind.u64 0, Value.int IntKind.u64 0, Value.int IntKind.u32 0, Value.int IntKind.u32 0, Value.int IntKind.u32 0, Value.int IntKind.u32 0, Value.int IntKind.u32 0, Value.int IntKind.u32 0, Value.int IntKind.u32 0, Value.int IntKind.u32 0, Value.int IntKind.u32 0, Value.int IntKind.i64 0, Value.bool false] 31)) (show w.heap.size ≤ w7.heap.size by omega) (vc d))
  generalize hw8 : (w7.alloc (.cells #[Value.int IntKind.u32 0, Value.int IntKind.u32 0, Value.int IntKind.u32 0, Value.int IntKind.u32 0, Value.int IntKind.u32 0, Value.int IntKind.u32 0, Value.int IntKind.u32 0, Value.int IntKind.u32 0, Value.int IntKind.u32 0, Value.int IntKind.u32 0, Value.int IntKind.u32 0, Value.int IntKind.u32 0, Value.int IntKind.u32 0, Value.int IntKind.u32 0, Value.int IntKind.u32 0, Value.int IntKind.u32 0, Value.int IntKind.u64 0, Value.int IntKind.u64 0, Value.int IntKind.u64 0, Value.int IntKind.u64 0, Value.int IntKind.u64 0, Value.int IntKind.u64 0, Value.int IntKind.u64 0, Value.int IntKind.u64 0, Value.int IntKind.u32 0, Value.int IntKind.u32 0, Value.int IntKind.u32 0, Value.int IntKind.u32 0, Value.int IntKind.u32 0, Value.int IntKind.u32 0, Value.int IntKind.u32 0, Value.int IntKind.u32 0, Value.int IntKind.u32 0, Value.int IntKind.i64 0, Value.bool false] 31)).setRow w7.heap.size (vc d) = w8 at *
  clear hw8 B7 X7 H7
  generalize w6.heap.size = g2 at *
  generalize w7.heap.size = g3 at *
  go_wp2_with (first | refine ldg rfl _ rfl g2 rfl x2 (by exact X8.out) ?_ | refine ldg rfl _ rfl w.heap.size rfl c (by exact B8.out) ?_ | refine ldg rfl _ rfl g3 rfl d (by exact D8.out) ?_)
  refine (check_calls _ hfd).mono ?_
  rintro e w9 ⟨rfl, hB⟩
  rw [HDK.out]
  have B9 := Aside0.mk (blk_below B8.out hB)
  have D9 := Aside0.mk (blk_below D8.out hB)
  have H9 := Aside0.mk (below_step H8.out hB)
  clear hB B8 D8 H8 X8
  go_wp2_with (first | refine ld rfl _ rfl g3 rfl d (by exact D9.out) ?_)
  refine (want255 d _ M m hfd HM.out M1 HLE.out HCAN.out).mono ?_
  rintro e wa ⟨rfl, hB⟩
  have BA := Aside0.mk (blk_below B9.out hB)
  have DA := Aside0.mk (blk_below D9.out hB)
  have HA := Aside0.mk (below_step H9.out hB)
  clear hB B9 D9 H9
  have c33 := (blk_cell BA.out 33).trans (get33 c)
  have d33 := (blk_cell DA.out 33).trans (get33 d)
  go_wp2_with (first | refine ldg27 rfl _ rfl g3 rfl d (by exact DA.out) ?_ | refine ldg27 rfl _ rfl w.heap.size rfl c (by exact BA.out) ?_ | refine ldg29 rfl _ rfl g3 rfl d (by exact DA.out) ?_ | refine ldg29 rfl _ rfl w.heap.size rfl c (by exact BA.out) ?_)
  go_ret
  exact ⟨rfl, HA.out⟩

theorem back_ok_2 (hf : Wf c) (t0 : 0 ≤ tv) (t1 : tv < 4294967296) (HC : Aside0 ((Kd.int .u8).C w A l.length l)) (hc : l.length ≤ cap) (hl : Aside0 (∀ x ∈ l, 0 ≤ x ∧ x < 256)) (hn : l.length ≤ 140737488351232) (HX : Aside0 (decR l = (x, 0))) (hfx : Wf x) (HL : Aside0 (encL x = l)) (HK : Aside0 (checkC x = 0)) (HCK : Aside0 (checkC c = 0)) (HEL : Aside0 (encL c = encB c)) (x2 : Cx) (HX2 : Aside0 (decR (encB c) = (x2, 0))) (q2 : cxEq x2 c = true) (d : Cx) (HD : Aside0 (enterC c n tv = d)) (hfd : Wf d) (HDK : Aside0 (checkC d = 0)) (HCAN : Aside0 (canB d = false)) (M m : Nat) (HM : Aside0 (d.ma = (M : Int))) (M1 : M < 4294967296) (HLE : Aside0 (Least (255 &&& M) m)) (p0 : (c.ha == 0) = true) (p0n : (c.ha != 0) = false) (p1 : (d.ha == 0) = false) (p1n : (d.ha != 0) = true) (r0 : regsEq d c = true) (r1 : ctlEq d c = true) :
    Calls Try.prog 10 #[.agg (vc c), .int .i64 n, .int .u32 tv, .slice A l.length cap] w fun e w' => e = .returned (.bool true) ∧ Below w.heap.size w w' := by
  go_enter Try.func10, Try.ntmps10
  go_wp2_with fail
  refine (works_calls _).mono ?_
  rintro e w1 ⟨rfl, hB⟩
  have B1 := Aside0.mk ((hB.block w.heap.size (by simp)).trans (heap_alloc_new w _))
  have H1 := Aside0.mk ((below_alloc (Below.refl w.heap.size w) _).trans (hB.mono (by simp)))
  clear hB
  go_wp2_with fail
  refine (decs A cap l _ (Kd.C_below HC.out H1.out) hc hl.out hn).1.mono ?_
  rintro e w2 ⟨rfl, hB⟩
  rw [HX.out]
  have B2 := Aside0.mk (blk_below B1.out hB)
  have H2 := Aside0.mk (below_step H1.out hB)
  have l2 := blk_lt B2.out
  clear hB B1 H1
  go_wp2_with (first | refine ld rfl _ rfl w2.heap.size rfl x (by exact row_new (heap_alloc_new _ _) _) ?_ | refine st rfl _ _ rfl w2.heap.size _ rfl rfl zc (by exact heap_alloc_new _ _) ?_)
  refine (enc_calls x _ hfx).mono ?_
  rintro e w3 ⟨A3, k3, rfl, hk3, hC3, hB⟩
  rw [HL.out] at hC3 ⊢
  rw [HK.out]
  have B3 := Aside0.mk (blk_below (row_far (blk_alloc B2.out (.cells #[Value.int IntKind.u32 0, Value.int IntKind.u32 0, Value.int IntKind.u32 0, Value.int IntKind.u32 0, Value.int IntKind.u32 0, Value.int IntKind.u32 0, Value.int IntKind.u32 0, Value.int IntKind.u32 0, Value.int IntKind.u32 0, Value.int IntKind.u32 0, Value.int IntKind.u32 0, Value.int IntKind.u32 0, Value.int IntKind.u32 0, Value.int IntKind.u32 0, Value.int IntKind.u32 0, Value.int IntKind.u32 0, Value.int IntKind.u64 0, Value.int IntKind.u64 0, Value.int IntKind.u64 0, Value.int IntKind.u64 0, Value.int IntKind.u64 0, Value.int IntKind.u64 0, Value.int IntKind.u64 0, Value.int IntKind.u64 0, Value.int IntKind.u32 0, Value.int IntKind.u32 0, Value.int IntKind.u32 0, Value.int IntKind.u32 0, Value.int IntKind.u32 0, Value.int IntKind.u32 0, Value.int IntKind.u32 0, Value.int IntKind.u32 0, Value.int IntKind.u32 0, Value.int IntKind.i64 0, Value.bool false] 31)) (vc x) (show w.heap.size ≠ w2.heap.size by omega)) hB)
  have D3 := Aside0.mk (blk_below (row_new (heap_alloc_new w2 (.cells #[Value.int IntKind.u32 0, Value.int IntKind.u32 0, Value.int IntKind.u32 0, Value.int IntKind.u32 0, Value.int IntKind.u32 0, Value.int IntKind.u32 0, Value.int IntKind.u32 0, Value.int IntKind.u32 0, Value.int IntKind.u32 0, Value.int IntKind.u32 0, Value.int IntKind.u32 0, Value.int IntKind.u32 0, Value.int IntKind.u32 0, Value.int IntKind.u32 0, Value.int IntKind.u32 0, Value.int IntKind.u32 0, Value.int IntKind.u64 0, Value.int IntKind.u64 0, Value.int IntKind.u64 0, Value.int IntKind.u64 0, Value.int IntKind.u64 0, Value.int IntKind.u64 0, Value.int IntKind.u64 0, Value.int IntKind.u64 0, Value.int IntKind.u32 0, Value.int IntKind.u32 0, Value.int IntKind.u32 0, Value.int IntKind.u32 0, Value.int IntKind.u32 0, Value.int IntKind.u32 0, Value.int IntKind.u32 0, Value.int IntKind.u32 0, Value.int IntKind.u32 0, Value.int IntKind.i64 0, Value.bool false] 31)) (vc x)) hB)
  have H3 := Aside0.mk (below_step (below_row (below_alloc H2.out (.cells #[Value.int IntKind.u32 0, Value.int IntKind.u32 0, Value.int IntKind.u32 0, Value.int IntKind.u32 0, Value.int IntKind.u32 0, Value.int IntKind.u32 0, Value.int IntKind.u32 0, Value.int IntKind.u32 0, Value.int IntKind.u32 0, Value.int IntKind.u32 0, Value.int IntKind.u32 0, Value.int IntKind.u32 0, Value.int IntKind.u32 0, Value.int IntKind.u32 0, Value.int IntKind.u32 0, Value.int IntKind.u32 0, Value.int IntKind.u64 0, Value.int IntKind.u64 0, Value.int IntKind.u64 0, Value.int IntKind.u64 0, Value.int IntKind.u64 0, Value.int IntKind.u64 0, Value.int IntKind.u64 0, Value.int IntKind.u64 0, Value.int IntKind.u32 0, Value.int IntKind.u32 0, Value.int IntKind.u32 0, Value.int IntKind.u32 0, Value.int IntKind.u32 0, Value.int IntKind.u32 0, Value.int IntKind.u32 0, Value.int IntKind.u32 0, Value.int IntKind.u32 0, Value.int IntKind.i64 0, Value.bool false] 31)) (show w.heap.size ≤ w2.heap.size by omega) (vc x)) hB)
  have v1 := Kd.C_string (c := k3) Try.underlying43 Try.underlying5 Try.underlying9 hC3
  have v2 := Kd.C_string (c := cap) Try.underlying43 Try.underlying5 Try.underlying9 (Kd.C_below HC.out H3.out)
  clear hB hC3 B2 H2 hk3
  go_wp2_with (first | refine ldg rfl _ rfl w2.heap.size rfl x (by exact D3.out) ?_)
  refine (check_calls _ hfx).mono ?_
  rintro e w4 ⟨rfl, hB⟩
  rw [HK.out]
  have B4 := Aside0.mk (blk_below B3.out hB)
  have H4 := Aside0.mk (below_step H3.out hB)
  clear hB B3 H3 D3 v1 v2
  go_wp2_with (first | refine ld rfl _ rfl w.heap.size rfl c (by exact B4.out) ?_)
  refine (enc_calls c _ hf).mono ?_
  rintro e w5 ⟨A5, k5, rfl, hk5, hC5, hB⟩
  rw [HEL.out] at hC5 hk5 ⊢
  rw [HCK.out]
  have C5 := Aside0.mk hC5
  have B5 := Aside0.mk (blk_below B4.out hB)
  have H5 := Aside0.mk (below_step H4.out hB)
  clear hB hC5 B4 H4
  go_wp2_with fail
  refine (decs A5 k5 (encB c) _ C5.out hk5 (enc_bytes c) (by rw [enc_len]; omega)).1.mono ?_
  rintro e w6 ⟨rfl, hB⟩
  rw [HX2.out, enc_len]
  have B6 := Aside0.mk (blk_below B5.out hB)
  have H6 := Aside0.mk (below_step H5.out hB)
  have l6 := blk_lt B6.out
  clear hB B5 H5 C5 hk5
  go_wp2_with (first | refine ld rfl _ rfl w.heap.size rfl c (by exact row_far (blk_alloc B6.out _) _ (by omega)) ?_ | refine st rfl _ _ rfl w6.heap.size _ rfl rfl zc (by exact heap_alloc_new _ _) ?_)
  refine (enter_calls c n tv _ hf.st.1 hf.st.2).mono ?_
  rintro e w7 ⟨rfl, hB⟩
  rw [HD.out]
  have B7 := Aside0.mk (blk_below (row_far (blk_alloc B6.out (.cells #[Value.int IntKind.u32 0, Value.int IntKind.u32 0, Value.int IntKind.u32 0, Value.int IntKind.u32 0, Value.int IntKind.u32 0, Value.int IntKind.u32 0, Value.int IntKind.u32 0, Value.int IntKind.u32 0, Value.int IntKind.u32 0, Value.int IntKind.u32 0, Value.int IntKind.u32 0, Value.int IntKind.u32 0, Value.int IntKind.u32 0, Value.int IntKind.u32 0, Value.int IntKind.u32 0, Value.int IntKind.u32 0, Value.int IntKind.u64 0, Value.int IntKind.u64 0, Value.int IntKind.u64 0, Value.int IntKind.u64 0, Value.int IntKind.u64 0, Value.int IntKind.u64 0, Value.int IntKind.u64 0, Value.int IntKind.u64 0, Value.int IntKind.u32 0, Value.int IntKind.u32 0, Value.int IntKind.u32 0, Value.int IntKind.u32 0, Value.int IntKind.u32 0, Value.int IntKind.u32 0, Value.int IntKind.u32 0, Value.int IntKind.u32 0, Value.int IntKind.u32 0, Value.int IntKind.i64 0, Value.bool false] 31)) (vc x2) (show w.heap.size ≠ w6.heap.size by omega)) hB)
  have X7 := Aside0.mk (blk_below (row_new (heap_alloc_new w6 (.cells #[Value.int IntKind.u32 0, Value.int IntKind.u32 0, Value.int IntKind.u32 0, Value.int IntKind.u32 0, Value.int IntKind.u32 0, Value.int IntKind.u32 0, Value.int IntKind.u32 0, Value.int IntKind.u32 0, Value.int IntKind.u32 0, Value.int IntKind.u32 0, Value.int IntKind.u32 0, Value.int IntKind.u32 0, Value.int IntKind.u32 0, Value.int IntKind.u32 0, Value.int IntKind.u32 0, Value.int IntKind.u32 0, Value.int IntKind.u64 0, Value.int IntKind.u64 0, Value.int IntKind.u64 0, Value.int IntKind.u64 0, Value.int IntKind.u64 0, Value.int IntKind.u64 0, Value.int IntKind.u64 0, Value.int IntKind.u64 0, Value.int IntKind.u32 0, Value.int IntKind.u32 0, Value.int IntKind.u32 0, Value.int IntKind.u32 0, Value.int IntKind.u32 0, Value.int IntKind.u32 0, Value.int IntKind.u32 0, Value.int IntKind.u32 0, Value.int IntKind.u32 0, Value.int IntKind.i64 0, Value.bool false] 31)) (vc x2)) hB)
  have H7 := Aside0.mk (below_step (below_row (below_alloc H6.out (.cells #[Value.int IntKind.u32 0, Value.int IntKind.u32 0, Value.int IntKind.u32 0, Value.int IntKind.u32 0, Value.int IntKind.u32 0, Value.int IntKind.u32 0, Value.int IntKind.u32 0, Value.int IntKind.u32 0, Value.int IntKind.u32 0, Value.int IntKind.u32 0, Value.int IntKind.u32 0, Value.int IntKind.u32 0, Value.int IntKind.u32 0, Value.int IntKind.u32 0, Value.int IntKind.u32 0, Value.int IntKind.u32 0, Value.int IntKind.u64 0, Value.int IntKind.u64 0, Value.int IntKind.u64 0, Value.int IntKind.u64 0, Value.int IntKind.u64 0, Value.int IntKind.u64 0, Value.int IntKind.u64 0, Value.int IntKind.u64 0, Value.int IntKind.u32 0, Value.int IntKind.u32 0, Value.int IntKind.u32 0, Value.int IntKind.u32 0, Value.int IntKind.u32 0, Value.int IntKind.u32 0, Value.int IntKind.u32 0, Value.int IntKind.u32 0, Value.int IntKind.u32 0, Value.int IntKind.i64 0, Value.bool false] 31)) (show w.heap.size ≤ w6.heap.size by omega) (vc x2)) hB)
  have l7 := blk_lt X7.out
  clear hB B6 H6
  go_upto_region 15 with (first | refine st rfl _ _ rfl w7.heap.size _ rfl rfl zc (by exact heap_alloc_new _ _) ?_)
  have B8 := Aside0.mk (row_far (blk_alloc B7.out (.cells #[Value.int IntKind.u32 0, Value.int IntKind.u32 0, Value.int IntKind.u32 0, Value.int IntKind.u32 0, Value.int IntKind.u32 0, Value.int IntKind.u32 0, Value.int IntKind.u32 0, Value.int IntKind.u32 0, Value.int IntKind.u32 0, Value.int IntKind.u32 0, Value.int IntKind.u32 0, Value.int IntKind.u32 0, Value.int IntKind.u32 0, Value.int IntKind.u32 0, Value.int IntKind.u32 0, Value.int IntKind.u32 0, Value.int IntKind.u64 0, Value.int IntKind.u64 0, Value.int IntKind.u64 0, Value.int IntKind.u64 0, Value.int IntKind.u64 0, Value.int IntKind.u64 0, Value.int IntKind.u64 0, Value.int IntKind.u64 0, Value.int IntKind.u32 0, Value.int IntKind.u32 0, Value.int IntKind.u32 0, Value.int IntKind.u32 0, Value.int IntKind.u32 0, Value.int IntKind.u32 0, Value.int IntKind.u32 0, Value.int IntKind.u32 0, Value.int IntKind.u32 0, Value.int IntKind.i64 0, Value.bool false] 31)) (vc d) (show w.heap.size ≠ w7.heap.size by omega))
  have X8 := Aside0.mk (row_far (blk_alloc X7.out (.cells #[Value.int IntKind.u32 0, Value.int IntKind.u32 0, Value.int IntKind.u32 0, Value.int IntKind.u32 0, Value.int IntKind.u32 0, Value.int IntKind.u32 0, Value.int IntKind.u32 0, Value.int IntKind.u32 0, Value.int IntKind.u32 0, Value.int IntKind.u32 0, Value.int IntKind.u32 0, Value.int IntKind.u32 0, Value.int IntKind.u32 0, Value.int IntKind.u32 0, Value.int IntKind.u32 0, Value.int IntKind.u32 0, Value.int IntKind.u64 0, Value.int IntKind.u64 0, Value.int IntKind.u64 0, Value.int IntKind.u64 0, Value.int IntKind.u64 0, Value.int IntKind.u64 0, Value.int IntKind.u64 0, Value.int IntKind.u64 0, Value.int IntKind.u32 0, Value.int IntKind.u32 0, Value.int IntKind.u32 0, Value.int IntKind.u32 0, Value.int IntKind.u32 0, Value.int IntKind.u32 0, Value.int IntKind.u32 0, Value.int IntKind.u32 0, Value.int IntKind.u32 0, Value.int IntKind.i64 0, Value.bool false] 31)) (vc d) (show w6.heap.size ≠ w7.heap.size by omega))
  have D8 := Aside0.mk (row_new (heap_alloc_new w7 (.cells #[Value.int IntKind.u32 0, Value.int IntKind.u32 0, Value.int IntKind.u32 0, Value.int IntKind.u32 0, Value.int IntKind.u32 0, Value.int IntKind.u32 0, Value.int IntKind.u32 0, Value.int IntKind.u32 0, Value.int IntKind.u32 0, Value.int IntKind.u32 0, Value.int IntKind.u32 0, Value.int IntKind.u32 0, Value.int IntKind.u32 0, Value.int IntKind.u32 0, Value.int IntKind.u32 0, Value.int IntKind.u32 0, Value.int IntKind.u64 0, Value.int IntKind.u64 0, Value.int IntKind.u64 0, Value.int IntKind.u64 0, Value.int IntKind.u64 0, Value.int IntKind.u64 0, Value.int IntKind.u64 0, Value.int IntKind.u64 0, Value.int IntKind.u32 0, Value.int IntKind.u32 0, Value.int IntKind.u32 0, Value.int IntKind.u32 0, Value.int IntKind.u32 0, Value.int IntKind.u32 0, Value.int IntKind.u32 0, Value.int IntKind.u32 0, Value.int IntKind.u32 0, Value.int IntKind.i64 0, Value.bool false] 31)) (vc d))
  have H8 := Aside0.mk (below_row (below_alloc H7.out (.cells #[Value.int IntKind.u32 0, Value.int IntKind.u32 0, Value.int IntKind.u32 0, Value.int IntKind.u32 0, Value.int IntKind.u32 0, Value.int IntKind.u32 0, Value.int IntKind.u32 0, Value.int IntKind.u32 0, Value.int IntKind.u32 0, Value.int IntKind.u32 0, Value.int IntKind.u32 0, Value.int IntKind.u32 0, Value.int IntKind.u32 0, Value.int IntKind.u32 0, Value.int IntKind.u32 0, Value.int IntKind.u32 0, Value.int IntKind.u64 0, Value.int IntKind.u64 0, Value.int IntKind.u64 0, Value.int IntKind.u64 0, Value.int IntKind.u64 0, Value.int IntKind.u64 0, Value.int IntKind.u64 0, Value.int IntKind.u64 0, Value.int IntKind.u32 0, Value.int IntKind.u32 0, Value.int IntKind.u32 0, Value.int IntKind.u32 0, Value.int IntKind.u32 0, Value.int IntKind.u32 0, Value.int IntKind.u32 0, Value.int IntKind.u32 0, Value.int IntKind.u32 0, Value.int IntKind.i64 0, Value.bool false] 31)) (show w.heap.size ≤ w7.heap.size by omega) (vc d))
  generalize hw8 : (w7.alloc (.cells #[Value.int IntKind.u32 0, Value.int IntKind.u32 0, Value.int IntKind.u32 0, Value.int IntKind.u32 0, Value.int IntKind.u32 0, Value.int IntKind.u32 0, Value.int IntKind.u32 0, Value.int IntKind.u32 0, Value.int IntKind.u32 0, Value.int IntKind.u32 0, Value.int IntKind.u32 0, Value.int IntKind.u32 0, Value.int IntKind.u32 0, Value.int IntKind.u32 0, Value.int IntKind.u32 0, Value.int IntKind.u32 0, Value.int IntKind.u64 0, Value.int IntKind.u64 0, Value.int IntKind.u64 0, Value.int IntKind.u64 0, Value.int IntKind.u64 0, Value.int IntKind.u64 0, Value.int IntKind.u64 0, Value.int IntKind.u64 0, Value.int IntKind.u32 0, Value.int IntKind.u32 0, Value.int IntKind.u32 0, Value.int IntKind.u32 0, Value.int IntKind.u32 0, Value.int IntKind.u32 0, Value.int IntKind.u32 0, Value.int IntKind.u32 0, Value.int IntKind.u32 0, Value.int IntKind.i64 0, Value.bool false] 31)).setRow w7.heap.size (vc d) = w8 at *
  clear hw8 B7 X7 H7
  generalize w6.heap.size = g2 at *
  generalize w7.heap.size = g3 at *
  go_wp2_with (first | refine ldg rfl _ rfl g2 rfl x2 (by exact X8.out) ?_ | refine ldg rfl _ rfl w.heap.size rfl c (by exact B8.out) ?_ | refine ldg rfl _ rfl g3 rfl d (by exact D8.out) ?_)
  refine (check_calls _ hfd).mono ?_
  rintro e w9 ⟨rfl, hB⟩
  rw [HDK.out]
  have B9 := Aside0.mk (blk_below B8.out hB)
  have D9 := Aside0.mk (blk_below D8.out hB)
  have H9 := Aside0.mk (below_step H8.out hB)
  clear hB B8 D8 H8 X8
  go_wp2_with (first | refine ld rfl _ rfl g3 rfl d (by exact D9.out) ?_)
  refine (want255 d _ M m hfd HM.out M1 HLE.out HCAN.out).mono ?_
  rintro e wa ⟨rfl, hB⟩
  have BA := Aside0.mk (blk_below B9.out hB)
  have DA := Aside0.mk (blk_below D9.out hB)
  have HA := Aside0.mk (below_step H9.out hB)
  clear hB B9 D9 H9
  have c33 := (blk_cell BA.out 33).trans (get33 c)
  have d33 := (blk_cell DA.out 33).trans (get33 d)
  go_wp2_with (first | refine ldg27 rfl _ rfl g3 rfl d (by exact DA.out) ?_ | refine ldg27 rfl _ rfl w.heap.size rfl c (by exact BA.out) ?_ | refine ldg29 rfl _ rfl g3 rfl d (by exact DA.out) ?_ | refine ldg29 rfl _ rfl w.heap.size rfl c (by exact BA.out) ?_)
  go_ret
  exact ⟨rfl, HA.out⟩

theorem back_ok_3 (hf : Wf c) (t0 : 0 ≤ tv) (t1 : tv < 4294967296) (HC : Aside0 ((Kd.int .u8).C w A l.length l)) (hc : l.length ≤ cap) (hl : Aside0 (∀ x ∈ l, 0 ≤ x ∧ x < 256)) (hn : l.length ≤ 140737488351232) (HX : Aside0 (decR l = (x, 0))) (hfx : Wf x) (HL : Aside0 (encL x = l)) (HK : Aside0 (checkC x = 0)) (HCK : Aside0 (checkC c = 0)) (HEL : Aside0 (encL c = encB c)) (x2 : Cx) (HX2 : Aside0 (decR (encB c) = (x2, 0))) (q2 : cxEq x2 c = true) (d : Cx) (HD : Aside0 (enterC c n tv = d)) (hfd : Wf d) (HDK : Aside0 (checkC d = 0)) (HCAN : Aside0 (canB d = false)) (M m : Nat) (HM : Aside0 (d.ma = (M : Int))) (M1 : M < 4294967296) (HLE : Aside0 (Least (255 &&& M) m)) (p0 : (c.ha == 0) = true) (p0n : (c.ha != 0) = false) (p1 : (d.ha == 0) = true) (p1n : (d.ha != 0) = false) (r : Cx) (HR : Aside0 (returnC d = r)) (hfr : Wf r) (HRK : Aside0 (checkC r = 0)) (r0 : regsEq r c = true) (s25 : r.st = c.st) (s34 : r.id = false) (s30 : r.ve = c.ve) (s32 : r.ma = c.ma) (s31 : r.sc = c.sc) :
    Calls Try.prog 10 #[.agg (vc c), .int .i64 n, .int .u32 tv, .slice A l.length cap] w fun e w' => e = .returned (.bool true) ∧ Below w.heap.size w w' := by
  go_enter Try.func10, Try.ntmps10
  go_wp2_with fail
  refine (works_calls _).mono ?_
  rintro e w1 ⟨rfl, hB⟩
  have B1 := Aside0.mk ((hB.block w.heap.size (by simp)).trans (heap_alloc_new w _))
  have H1 := Aside0.mk ((below_alloc (Below.refl w.heap.size w) _).trans (hB.mono (by simp)))
  clear hB
  go_wp2_with fail
  refine (decs A cap l _ (Kd.C_below HC.out H1.out) hc hl.out hn).1.mono ?_
  rintro e w2 ⟨rfl, hB⟩
  rw [HX.out]
  have B2 := Aside0.mk (blk_below B1.out hB)
  have H2 := Aside0.mk (below_step H1.out hB)
  have l2 := blk_lt B2.out
  clear hB B1 H1
  go_wp2_with (first | refine ld rfl _ rfl w2.heap.size rfl x (by exact row_new (heap_alloc_new _ _) _) ?_ | refine st rfl _ _ rfl w2.heap.size _ rfl rfl zc (by exact heap_alloc_new _ _) ?_)
  refine (enc_calls x _ hfx).mono ?_
  rintro e w3 ⟨A3, k3, rfl, hk3, hC3, hB⟩
  rw [HL.out] at hC3 ⊢
  rw [HK.out]
  have B3 := Aside0.mk (blk_below (row_far (blk_alloc B2.out (.cells #[Value.int IntKind.u32 0, Value.int IntKind.u32 0, Value.int IntKind.u32 0, Value.int IntKind.u32 0, Value.int IntKind.u32 0, Value.int IntKind.u32 0, Value.int IntKind.u32 0, Value.int IntKind.u32 0, Value.int IntKind.u32 0, Value.int IntKind.u32 0, Value.int IntKind.u32 0, Value.int IntKind.u32 0, Value.int IntKind.u32 0, Value.int IntKind.u32 0, Value.int IntKind.u32 0, Value.int IntKind.u32 0, Value.int IntKind.u64 0, Value.int IntKind.u64 0, Value.int IntKind.u64 0, Value.int IntKind.u64 0, Value.int IntKind.u64 0, Value.int IntKind.u64 0, Value.int IntKind.u64 0, Value.int IntKind.u64 0, Value.int IntKind.u32 0, Value.int IntKind.u32 0, Value.int IntKind.u32 0, Value.int IntKind.u32 0, Value.int IntKind.u32 0, Value.int IntKind.u32 0, Value.int IntKind.u32 0, Value.int IntKind.u32 0, Value.int IntKind.u32 0, Value.int IntKind.i64 0, Value.bool false] 31)) (vc x) (show w.heap.size ≠ w2.heap.size by omega)) hB)
  have D3 := Aside0.mk (blk_below (row_new (heap_alloc_new w2 (.cells #[Value.int IntKind.u32 0, Value.int IntKind.u32 0, Value.int IntKind.u32 0, Value.int IntKind.u32 0, Value.int IntKind.u32 0, Value.int IntKind.u32 0, Value.int IntKind.u32 0, Value.int IntKind.u32 0, Value.int IntKind.u32 0, Value.int IntKind.u32 0, Value.int IntKind.u32 0, Value.int IntKind.u32 0, Value.int IntKind.u32 0, Value.int IntKind.u32 0, Value.int IntKind.u32 0, Value.int IntKind.u32 0, Value.int IntKind.u64 0, Value.int IntKind.u64 0, Value.int IntKind.u64 0, Value.int IntKind.u64 0, Value.int IntKind.u64 0, Value.int IntKind.u64 0, Value.int IntKind.u64 0, Value.int IntKind.u64 0, Value.int IntKind.u32 0, Value.int IntKind.u32 0, Value.int IntKind.u32 0, Value.int IntKind.u32 0, Value.int IntKind.u32 0, Value.int IntKind.u32 0, Value.int IntKind.u32 0, Value.int IntKind.u32 0, Value.int IntKind.u32 0, Value.int IntKind.i64 0, Value.bool false] 31)) (vc x)) hB)
  have H3 := Aside0.mk (below_step (below_row (below_alloc H2.out (.cells #[Value.int IntKind.u32 0, Value.int IntKind.u32 0, Value.int IntKind.u32 0, Value.int IntKind.u32 0, Value.int IntKind.u32 0, Value.int IntKind.u32 0, Value.int IntKind.u32 0, Value.int IntKind.u32 0, Value.int IntKind.u32 0, Value.int IntKind.u32 0, Value.int IntKind.u32 0, Value.int IntKind.u32 0, Value.int IntKind.u32 0, Value.int IntKind.u32 0, Value.int IntKind.u32 0, Value.int IntKind.u32 0, Value.int IntKind.u64 0, Value.int IntKind.u64 0, Value.int IntKind.u64 0, Value.int IntKind.u64 0, Value.int IntKind.u64 0, Value.int IntKind.u64 0, Value.int IntKind.u64 0, Value.int IntKind.u64 0, Value.int IntKind.u32 0, Value.int IntKind.u32 0, Value.int IntKind.u32 0, Value.int IntKind.u32 0, Value.int IntKind.u32 0, Value.int IntKind.u32 0, Value.int IntKind.u32 0, Value.int IntKind.u32 0, Value.int IntKind.u32 0, Value.int IntKind.i64 0, Value.bool false] 31)) (show w.heap.size ≤ w2.heap.size by omega) (vc x)) hB)
  have v1 := Kd.C_string (c := k3) Try.underlying43 Try.underlying5 Try.underlying9 hC3
  have v2 := Kd.C_string (c := cap) Try.underlying43 Try.underlying5 Try.underlying9 (Kd.C_below HC.out H3.out)
  clear hB hC3 B2 H2 hk3
  go_wp2_with (first | refine ldg rfl _ rfl w2.heap.size rfl x (by exact D3.out) ?_)
  refine (check_calls _ hfx).mono ?_
  rintro e w4 ⟨rfl, hB⟩
  rw [HK.out]
  have B4 := Aside0.mk (blk_below B3.out hB)
  have H4 := Aside0.mk (below_step H3.out hB)
  clear hB B3 H3 D3 v1 v2
  go_wp2_with (first | refine ld rfl _ rfl w.heap.size rfl c (by exact B4.out) ?_)
  refine (enc_calls c _ hf).mono ?_
  rintro e w5 ⟨A5, k5, rfl, hk5, hC5, hB⟩
  rw [HEL.out] at hC5 hk5 ⊢
  rw [HCK.out]
  have C5 := Aside0.mk hC5
  have B5 := Aside0.mk (blk_below B4.out hB)
  have H5 := Aside0.mk (below_step H4.out hB)
  clear hB hC5 B4 H4
  go_wp2_with fail
  refine (decs A5 k5 (encB c) _ C5.out hk5 (enc_bytes c) (by rw [enc_len]; omega)).1.mono ?_
  rintro e w6 ⟨rfl, hB⟩
  rw [HX2.out, enc_len]
  have B6 := Aside0.mk (blk_below B5.out hB)
  have H6 := Aside0.mk (below_step H5.out hB)
  have l6 := blk_lt B6.out
  clear hB B5 H5 C5 hk5
  go_wp2_with (first | refine ld rfl _ rfl w.heap.size rfl c (by exact row_far (blk_alloc B6.out _) _ (by omega)) ?_ | refine st rfl _ _ rfl w6.heap.size _ rfl rfl zc (by exact heap_alloc_new _ _) ?_)
  refine (enter_calls c n tv _ hf.st.1 hf.st.2).mono ?_
  rintro e w7 ⟨rfl, hB⟩
  rw [HD.out]
  have B7 := Aside0.mk (blk_below (row_far (blk_alloc B6.out (.cells #[Value.int IntKind.u32 0, Value.int IntKind.u32 0, Value.int IntKind.u32 0, Value.int IntKind.u32 0, Value.int IntKind.u32 0, Value.int IntKind.u32 0, Value.int IntKind.u32 0, Value.int IntKind.u32 0, Value.int IntKind.u32 0, Value.int IntKind.u32 0, Value.int IntKind.u32 0, Value.int IntKind.u32 0, Value.int IntKind.u32 0, Value.int IntKind.u32 0, Value.int IntKind.u32 0, Value.int IntKind.u32 0, Value.int IntKind.u64 0, Value.int IntKind.u64 0, Value.int IntKind.u64 0, Value.int IntKind.u64 0, Value.int IntKind.u64 0, Value.int IntKind.u64 0, Value.int IntKind.u64 0, Value.int IntKind.u64 0, Value.int IntKind.u32 0, Value.int IntKind.u32 0, Value.int IntKind.u32 0, Value.int IntKind.u32 0, Value.int IntKind.u32 0, Value.int IntKind.u32 0, Value.int IntKind.u32 0, Value.int IntKind.u32 0, Value.int IntKind.u32 0, Value.int IntKind.i64 0, Value.bool false] 31)) (vc x2) (show w.heap.size ≠ w6.heap.size by omega)) hB)
  have X7 := Aside0.mk (blk_below (row_new (heap_alloc_new w6 (.cells #[Value.int IntKind.u32 0, Value.int IntKind.u32 0, Value.int IntKind.u32 0, Value.int IntKind.u32 0, Value.int IntKind.u32 0, Value.int IntKind.u32 0, Value.int IntKind.u32 0, Value.int IntKind.u32 0, Value.int IntKind.u32 0, Value.int IntKind.u32 0, Value.int IntKind.u32 0, Value.int IntKind.u32 0, Value.int IntKind.u32 0, Value.int IntKind.u32 0, Value.int IntKind.u32 0, Value.int IntKind.u32 0, Value.int IntKind.u64 0, Value.int IntKind.u64 0, Value.int IntKind.u64 0, Value.int IntKind.u64 0, Value.int IntKind.u64 0, Value.int IntKind.u64 0, Value.int IntKind.u64 0, Value.int IntKind.u64 0, Value.int IntKind.u32 0, Value.int IntKind.u32 0, Value.int IntKind.u32 0, Value.int IntKind.u32 0, Value.int IntKind.u32 0, Value.int IntKind.u32 0, Value.int IntKind.u32 0, Value.int IntKind.u32 0, Value.int IntKind.u32 0, Value.int IntKind.i64 0, Value.bool false] 31)) (vc x2)) hB)
  have H7 := Aside0.mk (below_step (below_row (below_alloc H6.out (.cells #[Value.int IntKind.u32 0, Value.int IntKind.u32 0, Value.int IntKind.u32 0, Value.int IntKind.u32 0, Value.int IntKind.u32 0, Value.int IntKind.u32 0, Value.int IntKind.u32 0, Value.int IntKind.u32 0, Value.int IntKind.u32 0, Value.int IntKind.u32 0, Value.int IntKind.u32 0, Value.int IntKind.u32 0, Value.int IntKind.u32 0, Value.int IntKind.u32 0, Value.int IntKind.u32 0, Value.int IntKind.u32 0, Value.int IntKind.u64 0, Value.int IntKind.u64 0, Value.int IntKind.u64 0, Value.int IntKind.u64 0, Value.int IntKind.u64 0, Value.int IntKind.u64 0, Value.int IntKind.u64 0, Value.int IntKind.u64 0, Value.int IntKind.u32 0, Value.int IntKind.u32 0, Value.int IntKind.u32 0, Value.int IntKind.u32 0, Value.int IntKind.u32 0, Value.int IntKind.u32 0, Value.int IntKind.u32 0, Value.int IntKind.u32 0, Value.int IntKind.u32 0, Value.int IntKind.i64 0, Value.bool false] 31)) (show w.heap.size ≤ w6.heap.size by omega) (vc x2)) hB)
  have l7 := blk_lt X7.out
  clear hB B6 H6
  go_upto_region 15 with (first | refine st rfl _ _ rfl w7.heap.size _ rfl rfl zc (by exact heap_alloc_new _ _) ?_)
  have B8 := Aside0.mk (row_far (blk_alloc B7.out (.cells #[Value.int IntKind.u32 0, Value.int IntKind.u32 0, Value.int IntKind.u32 0, Value.int IntKind.u32 0, Value.int IntKind.u32 0, Value.int IntKind.u32 0, Value.int IntKind.u32 0, Value.int IntKind.u32 0, Value.int IntKind.u32 0, Value.int IntKind.u32 0, Value.int IntKind.u32 0, Value.int IntKind.u32 0, Value.int IntKind.u32 0, Value.int IntKind.u32 0, Value.int IntKind.u32 0, Value.int IntKind.u32 0, Value.int IntKind.u64 0, Value.int IntKind.u64 0, Value.int IntKind.u64 0, Value.int IntKind.u64 0, Value.int IntKind.u64 0, Value.int IntKind.u64 0, Value.int IntKind.u64 0, Value.int IntKind.u64 0, Value.int IntKind.u32 0, Value.int IntKind.u32 0, Value.int IntKind.u32 0, Value.int IntKind.u32 0, Value.int IntKind.u32 0, Value.int IntKind.u32 0, Value.int IntKind.u32 0, Value.int IntKind.u32 0, Value.int IntKind.u32 0, Value.int IntKind.i64 0, Value.bool false] 31)) (vc d) (show w.heap.size ≠ w7.heap.size by omega))
  have X8 := Aside0.mk (row_far (blk_alloc X7.out (.cells #[Value.int IntKind.u32 0, Value.int IntKind.u32 0, Value.int IntKind.u32 0, Value.int IntKind.u32 0, Value.int IntKind.u32 0, Value.int IntKind.u32 0, Value.int IntKind.u32 0, Value.int IntKind.u32 0, Value.int IntKind.u32 0, Value.int IntKind.u32 0, Value.int IntKind.u32 0, Value.int IntKind.u32 0, Value.int IntKind.u32 0, Value.int IntKind.u32 0, Value.int IntKind.u32 0, Value.int IntKind.u32 0, Value.int IntKind.u64 0, Value.int IntKind.u64 0, Value.int IntKind.u64 0, Value.int IntKind.u64 0, Value.int IntKind.u64 0, Value.int IntKind.u64 0, Value.int IntKind.u64 0, Value.int IntKind.u64 0, Value.int IntKind.u32 0, Value.int IntKind.u32 0, Value.int IntKind.u32 0, Value.int IntKind.u32 0, Value.int IntKind.u32 0, Value.int IntKind.u32 0, Value.int IntKind.u32 0, Value.int IntKind.u32 0, Value.int IntKind.u32 0, Value.int IntKind.i64 0, Value.bool false] 31)) (vc d) (show w6.heap.size ≠ w7.heap.size by omega))
  have D8 := Aside0.mk (row_new (heap_alloc_new w7 (.cells #[Value.int IntKind.u32 0, Value.int IntKind.u32 0, Value.int IntKind.u32 0, Value.int IntKind.u32 0, Value.int IntKind.u32 0, Value.int IntKind.u32 0, Value.int IntKind.u32 0, Value.int IntKind.u32 0, Value.int IntKind.u32 0, Value.int IntKind.u32 0, Value.int IntKind.u32 0, Value.int IntKind.u32 0, Value.int IntKind.u32 0, Value.int IntKind.u32 0, Value.int IntKind.u32 0, Value.int IntKind.u32 0, Value.int IntKind.u64 0, Value.int IntKind.u64 0, Value.int IntKind.u64 0, Value.int IntKind.u64 0, Value.int IntKind.u64 0, Value.int IntKind.u64 0, Value.int IntKind.u64 0, Value.int IntKind.u64 0, Value.int IntKind.u32 0, Value.int IntKind.u32 0, Value.int IntKind.u32 0, Value.int IntKind.u32 0, Value.int IntKind.u32 0, Value.int IntKind.u32 0, Value.int IntKind.u32 0, Value.int IntKind.u32 0, Value.int IntKind.u32 0, Value.int IntKind.i64 0, Value.bool false] 31)) (vc d))
  have H8 := Aside0.mk (below_row (below_alloc H7.out (.cells #[Value.int IntKind.u32 0, Value.int IntKind.u32 0, Value.int IntKind.u32 0, Value.int IntKind.u32 0, Value.int IntKind.u32 0, Value.int IntKind.u32 0, Value.int IntKind.u32 0, Value.int IntKind.u32 0, Value.int IntKind.u32 0, Value.int IntKind.u32 0, Value.int IntKind.u32 0, Value.int IntKind.u32 0, Value.int IntKind.u32 0, Value.int IntKind.u32 0, Value.int IntKind.u32 0, Value.int IntKind.u32 0, Value.int IntKind.u64 0, Value.int IntKind.u64 0, Value.int IntKind.u64 0, Value.int IntKind.u64 0, Value.int IntKind.u64 0, Value.int IntKind.u64 0, Value.int IntKind.u64 0, Value.int IntKind.u64 0, Value.int IntKind.u32 0, Value.int IntKind.u32 0, Value.int IntKind.u32 0, Value.int IntKind.u32 0, Value.int IntKind.u32 0, Value.int IntKind.u32 0, Value.int IntKind.u32 0, Value.int IntKind.u32 0, Value.int IntKind.u32 0, Value.int IntKind.i64 0, Value.bool false] 31)) (show w.heap.size ≤ w7.heap.size by omega) (vc d))
  generalize hw8 : (w7.alloc (.cells #[Value.int IntKind.u32 0, Value.int IntKind.u32 0, Value.int IntKind.u32 0, Value.int IntKind.u32 0, Value.int IntKind.u32 0, Value.int IntKind.u32 0, Value.int IntKind.u32 0, Value.int IntKind.u32 0, Value.int IntKind.u32 0, Value.int IntKind.u32 0, Value.int IntKind.u32 0, Value.int IntKind.u32 0, Value.int IntKind.u32 0, Value.int IntKind.u32 0, Value.int IntKind.u32 0, Value.int IntKind.u32 0, Value.int IntKind.u64 0, Value.int IntKind.u64 0, Value.int IntKind.u64 0, Value.int IntKind.u64 0, Value.int IntKind.u64 0, Value.int IntKind.u64 0, Value.int IntKind.u64 0, Value.int IntKind.u64 0, Value.int IntKind.u32 0, Value.int IntKind.u32 0, Value.int IntKind.u32 0, Value.int IntKind.u32 0, Value.int IntKind.u32 0, Value.int IntKind.u32 0, Value.int IntKind.u32 0, Value.int IntKind.u32 0, Value.int IntKind.u32 0, Value.int IntKind.i64 0, Value.bool false] 31)).setRow w7.heap.size (vc d) = w8 at *
  clear hw8 B7 X7 H7
  generalize w6.heap.size = g2 at *
  generalize w7.heap.size = g3 at *
  go_wp2_with (first | refine ldg rfl _ rfl g2 rfl x2 (by exact X8.out) ?_ | refine ldg rfl _ rfl w.heap.size rfl c (by exact B8.out) ?_ | refine ldg rfl _ rfl g3 rfl d (by exact D8.out) ?_)
  refine (check_calls _ hfd).mono ?_
  rintro e w9 ⟨rfl, hB⟩
  rw [HDK.out]
  have B9 := Aside0.mk (blk_below B8.out hB)
  have D9 := Aside0.mk (blk_below D8.out hB)
  have H9 := Aside0.mk (below_step H8.out hB)
  clear hB B8 D8 H8 X8
  go_wp2_with (first | refine ld rfl _ rfl g3 rfl d (by exact D9.out) ?_)
  refine (want255 d _ M m hfd HM.out M1 HLE.out HCAN.out).mono ?_
  rintro e wa ⟨rfl, hB⟩
  have BA := Aside0.mk (blk_below B9.out hB)
  have DA := Aside0.mk (blk_below D9.out hB)
  have HA := Aside0.mk (below_step H9.out hB)
  clear hB B9 D9 H9
  have c33 := (blk_cell BA.out 33).trans (get33 c)
  have d33 := (blk_cell DA.out 33).trans (get33 d)
  go_wp2_with (first | refine ld rfl _ rfl g3 rfl d (by exact DA.out) ?_)
  refine (return_calls d _).mono ?_
  rintro e wb ⟨rfl, hB⟩
  rw [HR.out]
  have BB := Aside0.mk (blk_below BA.out hB)
  have HB := Aside0.mk (below_step HA.out hB)
  have lb := blk_lt BB.out
  clear hB BA HA DA c33 d33
  go_upto_region 21 with (first | refine st rfl _ _ rfl wb.heap.size _ rfl rfl zc (by exact heap_alloc_new _ _) ?_)
  have BD := Aside0.mk (row_far (blk_alloc BB.out (.cells #[Value.int IntKind.u32 0, Value.int IntKind.u32 0, Value.int IntKind.u32 0, Value.int IntKind.u32 0, Value.int IntKind.u32 0, Value.int IntKind.u32 0, Value.int IntKind.u32 0, Value.int IntKind.u32 0, Value.int IntKind.u32 0, Value.int IntKind.u32 0, Value.int IntKind.u32 0, Value.int IntKind.u32 0, Value.int IntKind.u32 0, Value.int IntKind.u32 0, Value.int IntKind.u32 0, Value.int IntKind.u32 0, Value.int IntKind.u64 0, Value.int IntKind.u64 0, Value.int IntKind.u64 0, Value.int IntKind.u64 0, Value.int IntKind.u64 0, Value.int IntKind.u64 0, Value.int IntKind.u64 0, Value.int IntKind.u64 0, Value.int IntKind.u32 0, Value.int IntKind.u32 0, Value.int IntKind.u32 0, Value.int IntKind.u32 0, Value.int IntKind.u32 0, Value.int IntKind.u32 0, Value.int IntKind.u32 0, Value.int IntKind.u32 0, Value.int IntKind.u32 0, Value.int IntKind.i64 0, Value.bool false] 31)) (vc r) (show w.heap.size ≠ wb.heap.size by omega))
  have RD := Aside0.mk (row_new (heap_alloc_new wb (.cells #[Value.int IntKind.u32 0, Value.int IntKind.u32 0, Value.int IntKind.u32 0, Value.int IntKind.u32 0, Value.int IntKind.u32 0, Value.int IntKind.u32 0, Value.int IntKind.u32 0, Value.int IntKind.u32 0, Value.int IntKind.u32 0, Value.int IntKind.u32 0, Value.int IntKind.u32 0, Value.int IntKind.u32 0, Value.int IntKind.u32 0, Value.int IntKind.u32 0, Value.int IntKind.u32 0, Value.int IntKind.u32 0, Value.int IntKind.u64 0, Value.int IntKind.u64 0, Value.int IntKind.u64 0, Value.int IntKind.u64 0, Value.int IntKind.u64 0, Value.int IntKind.u64 0, Value.int IntKind.u64 0, Value.int IntKind.u64 0, Value.int IntKind.u32 0, Value.int IntKind.u32 0, Value.int IntKind.u32 0, Value.int IntKind.u32 0, Value.int IntKind.u32 0, Value.int IntKind.u32 0, Value.int IntKind.u32 0, Value.int IntKind.u32 0, Value.int IntKind.u32 0, Value.int IntKind.i64 0, Value.bool false] 31)) (vc r))
  have HD2 := Aside0.mk (below_row (below_alloc HB.out (.cells #[Value.int IntKind.u32 0, Value.int IntKind.u32 0, Value.int IntKind.u32 0, Value.int IntKind.u32 0, Value.int IntKind.u32 0, Value.int IntKind.u32 0, Value.int IntKind.u32 0, Value.int IntKind.u32 0, Value.int IntKind.u32 0, Value.int IntKind.u32 0, Value.int IntKind.u32 0, Value.int IntKind.u32 0, Value.int IntKind.u32 0, Value.int IntKind.u32 0, Value.int IntKind.u32 0, Value.int IntKind.u32 0, Value.int IntKind.u64 0, Value.int IntKind.u64 0, Value.int IntKind.u64 0, Value.int IntKind.u64 0, Value.int IntKind.u64 0, Value.int IntKind.u64 0, Value.int IntKind.u64 0, Value.int IntKind.u64 0, Value.int IntKind.u32 0, Value.int IntKind.u32 0, Value.int IntKind.u32 0, Value.int IntKind.u32 0, Value.int IntKind.u32 0, Value.int IntKind.u32 0, Value.int IntKind.u32 0, Value.int IntKind.u32 0, Value.int IntKind.u32 0, Value.int IntKind.i64 0, Value.bool false] 31)) (show w.heap.size ≤ wb.heap.size by omega) (vc r))
  generalize hwd : (wb.alloc (.cells #[Value.int IntKind.u32 0, Value.int IntKind.u32 0, Value.int IntKind.u32 0, Value.int IntKind.u32 0, Value.int IntKind.u32 0, Value.int IntKind.u32 0, Value.int IntKind.u32 0, Value.int IntKind.u32 0, Value.int IntKind.u32 0, Value.int IntKind.u32 0, Value.int IntKind.u32 0, Value.int IntKind.u32 0, Value.int IntKind.u32 0, Value.int IntKind.u32 0, Value.int IntKind.u32 0, Value.int IntKind.u32 0, Value.int IntKind.u64 0, Value.int IntKind.u64 0, Value.int IntKind.u64 0, Value.int IntKind.u64 0, Value.int IntKind.u64 0, Value.int IntKind.u64 0, Value.int IntKind.u64 0, Value.int IntKind.u64 0, Value.int IntKind.u32 0, Value.int IntKind.u32 0, Value.int IntKind.u32 0, Value.int IntKind.u32 0, Value.int IntKind.u32 0, Value.int IntKind.u32 0, Value.int IntKind.u32 0, Value.int IntKind.u32 0, Value.int IntKind.u32 0, Value.int IntKind.i64 0, Value.bool false] 31)).setRow wb.heap.size (vc r) = wd at *
  clear hwd BB HB
  generalize wb.heap.size = g4 at *
  have r25 := (blk_cell RD.out 25).trans (get25 r)
  have r34 := (blk_cell RD.out 34).trans (get34 r)
  have b25 := (blk_cell BD.out 25).trans (get25 c)
  rw [s25] at r25
  rw [s34] at r34
  clear s25 s34
  go_wp2_with (first | refine ldg27 rfl _ rfl g4 rfl r (by exact RD.out) ?_ | refine ldg27 rfl _ rfl w.heap.size rfl c (by exact BD.out) ?_ | refine ldg rfl _ rfl g4 rfl r (by exact RD.out) ?_)
  refine (check_calls _ hfr).mono ?_
  rintro e we ⟨rfl, hB⟩
  rw [HRK.out]
  have BE := Aside0.mk (blk_below BD.out hB)
  have RE := Aside0.mk (blk_below RD.out hB)
  have HE := Aside0.mk (below_step HD2.out hB)
  clear hB BD RD HD2 r25 r34 b25
  have r30 := (blk_cell RE.out 30).trans (get30 r)
  have r31 := (blk_cell RE.out 31).trans (get31 r)
  have r32 := (blk_cell RE.out 32).trans (get32 r)
  rw [s30] at r30
  rw [s31] at r31
  rw [s32] at r32
  clear s30 s31 s32
  have b30 := (blk_cell BE.out 30).trans (get30 c)
  have b31 := (blk_cell BE.out 31).trans (get31 c)
  have b32 := (blk_cell BE.out 32).trans (get32 c)
  go_wp2_with fail
  go_ret
  exact ⟨rfl, HE.out⟩

theorem back_bad_no (hf : Wf c) (t0 : 0 ≤ tv) (t1 : tv < 4294967296) (HC : Aside0 ((Kd.int .u8).C w A l.length l)) (hc : l.length ≤ cap) (hl : Aside0 (∀ x ∈ l, 0 ≤ x ∧ x < 256)) (hn : l.length ≤ 140737488351232) (HX : Aside0 (decR l = (zc, y))) (q0 : (y == 0) = false) (q0n : (y != 0) = true) (HCK : Aside0 (checkC c = 6)) (HEL : Aside0 (encL c = [])) :
    Calls Try.prog 10 #[.agg (vc c), .int .i64 n, .int .u32 tv, .slice A l.length cap] w fun e w' => e = .returned (.bool true) ∧ Below w.heap.size w w' := by
  go_enter Try.func10, Try.ntmps10
  go_wp2_with fail
  refine (works_calls _).mono ?_
  rintro e w1 ⟨rfl, hB⟩
  have B1 := Aside0.mk ((hB.block w.heap.size (by simp)).trans (heap_alloc_new w _))
  have H1 := Aside0.mk ((below_alloc (Below.refl w.heap.size w) _).trans (hB.mono (by simp)))
  clear hB
  go_wp2_with fail
  refine (decs A cap l _ (Kd.C_below HC.out H1.out) hc hl.out hn).1.mono ?_
  rintro e w2 ⟨rfl, hB⟩
  rw [HX.out]
  have B2 := Aside0.mk (blk_below B1.out hB)
  have H2 := Aside0.mk (below_step H1.out hB)
  have l2 := blk_lt B2.out
  clear hB B1 H1
  have B4 := Aside0.mk (row_far (blk_alloc B2.out (.cells #[Value.int IntKind.u32 0, Value.int IntKind.u32 0, Value.int IntKind.u32 0, Value.int IntKind.u32 0, Value.int IntKind.u32 0, Value.int IntKind.u32 0, Value.int IntKind.u32 0, Value.int IntKind.u32 0, Value.int IntKind.u32 0, Value.int IntKind.u32 0, Value.int IntKind.u32 0, Value.int IntKind.u32 0, Value.int IntKind.u32 0, Value.int IntKind.u32 0, Value.int IntKind.u32 0, Value.int IntKind.u32 0, Value.int IntKind.u64 0, Value.int IntKind.u64 0, Value.int IntKind.u64 0, Value.int IntKind.u64 0, Value.int IntKind.u64 0, Value.int IntKind.u64 0, Value.int IntKind.u64 0, Value.int IntKind.u64 0, Value.int IntKind.u32 0, Value.int IntKind.u32 0, Value.int IntKind.u32 0, Value.int IntKind.u32 0, Value.int IntKind.u32 0, Value.int IntKind.u32 0, Value.int IntKind.u32 0, Value.int IntKind.u32 0, Value.int IntKind.u32 0, Value.int IntKind.i64 0, Value.bool false] 31)) (vc zc) (show w.heap.size ≠ w2.heap.size by omega))
  have H4 := Aside0.mk (below_row (below_alloc H2.out (.cells #[Value.int IntKind.u32 0, Value.int IntKind.u32 0, Value.int IntKind.u32 0, Value.int IntKind.u32 0, Value.int IntKind.u32 0, Value.int IntKind.u32 0, Value.int IntKind.u32 0, Value.int IntKind.u32 0, Value.int IntKind.u32 0, Value.int IntKind.u32 0, Value.int IntKind.u32 0, Value.int IntKind.u32 0, Value.int IntKind.u32 0, Value.int IntKind.u32 0, Value.int IntKind.u32 0, Value.int IntKind.u32 0, Value.int IntKind.u64 0, Value.int IntKind.u64 0, Value.int IntKind.u64 0, Value.int IntKind.u64 0, Value.int IntKind.u64 0, Value.int IntKind.u64 0, Value.int IntKind.u64 0, Value.int IntKind.u64 0, Value.int IntKind.u32 0, Value.int IntKind.u32 0, Value.int IntKind.u32 0, Value.int IntKind.u32 0, Value.int IntKind.u32 0, Value.int IntKind.u32 0, Value.int IntKind.u32 0, Value.int IntKind.u32 0, Value.int IntKind.u32 0, Value.int IntKind.i64 0, Value.bool false] 31)) (show w.heap.size ≤ w2.heap.size by omega) (vc zc))
  go_wp2_with (first | refine ld rfl _ rfl w2.heap.size rfl zc (by exact row_new (heap_alloc_new _ _) _) ?_ | refine ld rfl _ rfl w.heap.size rfl c (by exact B4.out) ?_ | refine st rfl _ _ rfl w2.heap.size _ rfl rfl zc (by exact heap_alloc_new _ _) ?_)
  refine (enc_calls c _ hf).mono ?_
  rintro e w5 ⟨A5, k5, rfl, hk5, hC5, hB⟩
  rw [HEL.out] at hC5 hk5 ⊢
  rw [HCK.out]
  have C5 := Aside0.mk hC5
  have B5 := Aside0.mk (blk_below B4.out hB)
  have H5 := Aside0.mk (below_step H4.out hB)
  clear hB hC5 B4 H4
  go_wp2_with (first | refine ld rfl _ rfl w.heap.size rfl c (by exact B5.out) ?_)
  refine (check_calls _ hf).mono ?_
  rintro e w6 ⟨rfl, hB⟩
  rw [HCK.out]
  have H6 := Aside0.mk (below_step H5.out hB)
  clear hB B5 H5
  go_wp2_with fail
  go_ret
  exact ⟨rfl, H6.out⟩

theorem back_bad_1 (hf : Wf c) (t0 : 0 ≤ tv) (t1 : tv < 4294967296) (HC : Aside0 ((Kd.int .u8).C w A l.length l)) (hc : l.length ≤ cap) (hl : Aside0 (∀ x ∈ l, 0 ≤ x ∧ x < 256)) (hn : l.length ≤ 140737488351232) (HX : Aside0 (decR l = (zc, y))) (q0 : (y == 0) = false) (q0n : (y != 0) = true) (HCK : Aside0 (checkC c = 0)) (HEL : Aside0 (encL c = encB c)) (x2 : Cx) (HX2 : Aside0 (decR (encB c) = (x2, 0))) (q2 : cxEq x2 c = true) (d : Cx) (HD : Aside0 (enterC c n tv = d)) (hfd : Wf d) (HDK : Aside0 (checkC d = 0)) (HCAN : Aside0 (canB d = false)) (M m : Nat) (HM : Aside0 (d.ma = (M : Int))) (M1 : M < 4294967296) (HLE : Aside0 (Least (255 &&& M) m)) (p0 : (c.ha == 0) = false) (p0n : (c.ha != 0) = true) (r0 : regsEq d c = true) (r1 : ctlEq d c = true) :
    Calls Try.prog 10 #[.agg (vc c), .int .i64 n, .int .u32 tv, .slice A l.length cap] w fun e w' => e = .returned (.bool true) ∧ Below w.heap.size w w' := by
  go_enter Try.func10, Try.ntmps10
  go_wp2_with fail
  refine (works_calls _).mono ?_
  rintro e w1 ⟨rfl, hB⟩
  have B1 := Aside0.mk ((hB.block w.heap.size (by simp)).trans (heap_alloc_new w _))
  have H1 := Aside0.mk ((below_alloc (Below.refl w.heap.size w) _).trans (hB.mono (by simp)))
  clear hB
  go_wp2_with fail
  refine (decs A cap l _ (Kd.C_below HC.out H1.out) hc hl.out hn).1.mono ?_
  rintro e w2 ⟨rfl, hB⟩
  rw [HX.out]
  have B2 := Aside0.mk (blk_below B1.out hB)
  have H2 := Aside0.mk (below_step H1.out hB)
  have l2 := blk_lt B2.out
  clear hB B1 H1
  have B4 := Aside0.mk (row_far (blk_alloc B2.out (.cells #[Value.int IntKind.u32 0, Value.int IntKind.u32 0, Value.int IntKind.u32 0, Value.int IntKind.u32 0, Value.int IntKind.u32 0, Value.int IntKind.u32 0, Value.int IntKind.u32 0, Value.int IntKind.u32 0, Value.int IntKind.u32 0, Value.int IntKind.u32 0, Value.int IntKind.u32 0, Value.int IntKind.u32 0, Value.int IntKind.u32 0, Value.int IntKind.u32 0, Value.int IntKind.u32 0, Value.int IntKind.u32 0, Value.int IntKind.u64 0, Value.int IntKind.u64 0, Value.int IntKind.u64 0, Value.int IntKind.u64 0, Value.int IntKind.u64 0, Value.int IntKind.u64 0, Value.int IntKind.u64 0, Value.int IntKind.u64 0, Value.int IntKind.u32 0, Value.int IntKind.u32 0, Value.int IntKind.u32 0, Value.int IntKind.u32 0, Value.int IntKind.u32 0, Value.int IntKind.u32 0, Value.int IntKind.u32 0, Value.int IntKind.u32 0, Value.int IntKind.u32 0, Value.int IntKind.i64 0, Value.bool false] 31)) (vc zc) (show w.heap.size ≠ w2.heap.size by omega))
  have H4 := Aside0.mk (below_row (below_alloc H2.out (.cells #[Value.int IntKind.u32 0, Value.int IntKind.u32 0, Value.int IntKind.u32 0, Value.int IntKind.u32 0, Value.int IntKind.u32 0, Value.int IntKind.u32 0, Value.int IntKind.u32 0, Value.int IntKind.u32 0, Value.int IntKind.u32 0, Value.int IntKind.u32 0, Value.int IntKind.u32 0, Value.int IntKind.u32 0, Value.int IntKind.u32 0, Value.int IntKind.u32 0, Value.int IntKind.u32 0, Value.int IntKind.u32 0, Value.int IntKind.u64 0, Value.int IntKind.u64 0, Value.int IntKind.u64 0, Value.int IntKind.u64 0, Value.int IntKind.u64 0, Value.int IntKind.u64 0, Value.int IntKind.u64 0, Value.int IntKind.u64 0, Value.int IntKind.u32 0, Value.int IntKind.u32 0, Value.int IntKind.u32 0, Value.int IntKind.u32 0, Value.int IntKind.u32 0, Value.int IntKind.u32 0, Value.int IntKind.u32 0, Value.int IntKind.u32 0, Value.int IntKind.u32 0, Value.int IntKind.i64 0, Value.bool false] 31)) (show w.heap.size ≤ w2.heap.size by omega) (vc zc))
  go_wp2_with (first | refine ld rfl _ rfl w2.heap.size rfl zc (by exact row_new (heap_alloc_new _ _) _) ?_ | refine ld rfl _ rfl w.heap.size rfl c (by exact B4.out) ?_ | refine st rfl _ _ rfl w2.heap.size _ rfl rfl zc (by exact heap_alloc_new _ _) ?_)
  refine (enc_calls c _ hf).mono ?_
  rintro e w5 ⟨A5, k5, rfl, hk5, hC5, hB⟩
  rw [HEL.out] at hC5 hk5 ⊢
  rw [HCK.out]
  have C5 := Aside0.mk hC5
  have B5 := Aside0.mk (blk_below B4.out hB)
  have H5 := Aside0.mk (below_step H4.out hB)
  clear hB hC5 B4 H4
  go_wp2_with fail
  refine (decs A5 k5 (encB c) _ C5.out hk5 (enc_bytes c) (by rw [enc_len]; omega)).1.mono ?_
  rintro e w6 ⟨rfl, hB⟩
  rw [HX2.out, enc_len]
  have B6 := Aside0.mk (blk_below B5.out hB)
  have H6 := Aside0.mk (below_step H5.out hB)
  have l6 := blk_lt B6.out
  clear hB B5 H5 C5 hk5
  go_wp2_with (first | refine ld rfl _ rfl w.heap.size rfl c (by exact row_far (blk_alloc B6.out _) _ (by omega)) ?_ | refine st rfl _ _ rfl w6.heap.size _ rfl rfl zc (by exact heap_alloc_new _ _) ?_)
  refine (enter_calls c n tv _ hf.st.1 hf.st.2).mono ?_
  rintro e w7 ⟨rfl, hB⟩
  rw [HD.out]
  have B7 := Aside0.mk (blk_below (row_far (blk_alloc B6.out (.cells #[Value.int IntKind.u32 0, Value.int IntKind.u32 0, Value.int IntKind.u32 0, Value.int IntKind.u32 0, Value.int IntKind.u32 0, Value.int IntKind.u32 0, Value.int IntKind.u32 0, Value.int IntKind.u32 0, Value.int IntKind.u32 0, Value.int IntKind.u32 0, Value.int IntKind.u32 0, Value.int IntKind.u32 0, Value.int IntKind.u32 0, Value.int IntKind.u32 0, Value.int IntKind.u32 0, Value.int IntKind.u32 0, Value.int IntKind.u64 0, Value.int IntKind.u64 0, Value.int IntKind.u64 0, Value.int IntKind.u64 0, Value.int IntKind.u64 0, Value.int IntKind.u64 0, Value.int IntKind.u64 0, Value.int IntKind.u64 0, Value.int IntKind.u32 0, Value.int IntKind.u32 0, Value.int IntKind.u32 0, Value.int IntKind.u32 0, Value.int IntKind.u32 0, Value.int IntKind.u32 0, Value.int IntKind.u32 0, Value.int IntKind.u32 0, Value.int IntKind.u32 0, Value.int IntKind.i64 0, Value.bool false] 31)) (vc x2) (show w.heap.size ≠ w6.heap.size by omega)) hB)
  have X7 := Aside0.mk (blk_below (row_new (heap_alloc_new w6 (.cells #[Value.int IntKind.u32 0, Value.int IntKind.u32 0, Value.int IntKind.u32 0, Value.int IntKind.u32 0, Value.int IntKind.u32 0, Value.int IntKind.u32 0, Value.int IntKind.u32 0, Value.int IntKind.u32 0, Value.int IntKind.u32 0, Value.int IntKind.u32 0, Value.int IntKind.u32 0, Value.int IntKind.u32 0, Value.int IntKind.u32 0, Value.int IntKind.u32 0, Value.int IntKind.u32 0, Value.int IntKind.u32 0, Value.int IntKind.u64 0, Value.int IntKind.u64 0, Value.int IntKind.u64 0, Value.int IntKind.u64 0, Value.int IntKind.u64 0, Value.int IntKind.u64 0, Value.int IntKind.u64 0, Value.int IntKind.u64 0, Value.int IntKind.u32 0, Value.int IntKind.u32 0, Value.int IntKind.u32 0, Value.int IntKind.u32 0, Value.int IntKind.u32 0, Value.int IntKind.u32 0, Value.int IntKind.u32 0, Value.int IntKind.u32 0, Value.int IntKind.u32 0, Value.int IntKind.i64 0, Value.bool false] 31)) (vc x2)) hB)
  have H7 := Aside0.mk (below_step (below_row (below_alloc H6.out (.cells #[Value.int IntKind.u32 0, Value.int IntKind.u32 0, Value.int IntKind.u32 0, Value.int IntKind.u32 0, Value.int IntKind.u32 0, Value.int IntKind.u32 0, Value.int IntKind.u32 0, Value.int IntKind.u32 0, Value.int IntKind.u32 0, Value.int IntKind.u32 0, Value.int IntKind.u32 0, Value.int IntKind.u32 0, Value.int IntKind.u32 0, Value.int IntKind.u32 0, Value.int IntKind.u32 0, Value.int IntKind.u32 0, Value.int IntKind.u64 0, Value.int IntKind.u64 0, Value.int IntKind.u64 0, Value.int IntKind.u64 0, Value.int IntKind.u64 0, Value.int IntKind.u64 0, Value.int IntKind.u64 0, Value.int IntKind.u64 0, Value.int IntKind.u32 0, Value.int IntKind.u32 0, Value.int IntKind.u32 0, Value.int IntKind.u32 0, Value.int IntKind.u32 0, Value.int IntKind.u32 0, Value.int IntKind.u32 0, Value.int IntKind.u32 0, Value.int IntKind.u32 0, Value.int IntKind.i64 0, Value.bool false] 31)) (show w.heap.size ≤ w6.heap.size by omega) (vc x2)) hB)
  have l7 := blk_lt X7.out
  clear hB B6 H6
  go_upto_region 15 with (first | refine st rfl _ _ rfl w7.heap.size _ rfl rfl zc (by exact heap_alloc_new _ _) ?_)
  have B8 := Aside0.mk (row_far (blk_alloc B7.out (.cells #[Value.int IntKind.u32 0, Value.int IntKind.u32 0, Value.int IntKind.u32 0, Value.int IntKind.u32 0, Value.int IntKind.u32 0, Value.int IntKind.u32 0, Value.int IntKind.u32 0, Value.int IntKind.u32 0, Value.int IntKind.u32 0, Value.int IntKind.u32 0, Value.int IntKind.u32 0, Value.int IntKind.u32 0, Value.int IntKind.u32 0, Value.int IntKind.u32 0, Value.int IntKind.u32 0, Value.int IntKind.u32 0, Value.int IntKind.u64 0, Value.int IntKind.u64 0, Value.int IntKind.u64 0, Value.int IntKind.u64 0, Value.int IntKind.u64 0, Value.int IntKind.u64 0, Value.int IntKind.u64 0, Value.int IntKind.u64 0, Value.int IntKind.u32 0, Value.int IntKind.u32 0, Value.int IntKind.u32 0, Value.int IntKind.u32 0, Value.int IntKind.u32 0, Value.int IntKind.u32 0, Value.int IntKind.u32 0, Value.int IntKind.u32 0, Value.int IntKind.u32 0, Value.int IntKind.i64 0, Value.bool false] 31)) (vc d) (show w.heap.size ≠ w7.heap.size by omega))
  have X8 := Aside0.mk (row_far (blk_alloc X7.out (.cells #[Value.int IntKind.u32 0, Value.int IntKind.u32 0, Value.int IntKind.u32 0, Value.int IntKind.u32 0, Value.int IntKind.u32 0, Value.int IntKind.u32 0, Value.int IntKind.u32 0, Value.int IntKind.u32 0, Value.int IntKind.u32 0, Value.int IntKind.u32 0, Value.int IntKind.u32 0, Value.int IntKind.u32 0, Value.int IntKind.u32 0, Value.int IntKind.u32 0, Value.int IntKind.u32 0, Value.int IntKind.u32 0, Value.int IntKind.u64 0, Value.int IntKind.u64 0, Value.int IntKind.u64 0, Value.int IntKind.u64 0, Value.int IntKind.u64 0, Value.int IntKind.u64 0, Value.int IntKind.u64 0, Value.int IntKind.u64 0, Value.int IntKind.u32 0, Value.int IntKind.u32 0, Value.int IntKind.u32 0, Value.int IntKind.u32 0, Value.int IntKind.u32 0, Value.int IntKind.u32 0, Value.int IntKind.u32 0, Value.int IntKind.u32 0, Value.int IntKind.u32 0, Value.int IntKind.i64 0, Value.bool false] 31)) (vc d) (show w6.heap.size ≠ w7.heap.size by omega))
  have D8 := Aside0.mk (row_new (heap_alloc_new w7 (.cells #[Value.int IntKind.u32 0, Value.int IntKind.u32 0, Value.int IntKind.u32 0, Value.int IntKind.u32 0, Value.int IntKind.u32 0, Value.int IntKind.u32 0, Value.int IntKind.u32 0, Value.int IntKind.u32 0, Value.int IntKind.u32 0, Value.int IntKind.u32 0, Value.int IntKind.u32 0, Value.int IntKind.u32 0, Value.int IntKind.u32 0, Value.int IntKind.u32 0, Value.int IntKind.u32 0, Value.int IntKind.u32 0, Value.int IntKind.u64 0, Value.int IntKind.u64 0, Value.int IntKind.u64 0, Value.int IntKind.u64 0, Value.int IntKind.u64 0, Value.int IntKind.u64 0, Value.int IntKind.u64 0, Value.int IntKind.u64 0, Value.int IntKind.u32 0, Value.int IntKind.u32 0, Value.int IntKind.u32 0, Value.int IntKind.u32 0, Value.int IntKind.u32 0, Value.int IntKind.u32 0, Value.int IntKind.u32 0, Value.int IntKind.u32 0, Value.int IntKind.u32 0, Value.int IntKind.i64 0, Value.bool false] 31)) (vc d))
  have H8 := Aside0.mk (below_row (below_alloc H7.out (.cells #[Value.int IntKind.u32 0, Value.int IntKind.u32 0, Value.int IntKind.u32 0, Value.int IntKind.u32 0, Value.int IntKind.u32 0, Value.int IntKind.u32 0, Value.int IntKind.u32 0, Value.int IntKind.u32 0, Value.int IntKind.u32 0, Value.int IntKind.u32 0, Value.int IntKind.u32 0, Value.int IntKind.u32 0, Value.int IntKind.u32 0, Value.int IntKind.u32 0, Value.int IntKind.u32 0, Value.int IntKind.u32 0, Value.int IntKind.u64 0, Value.int IntKind.u64 0, Value.int IntKind.u64 0, Value.int IntKind.u64 0, Value.int IntKind.u64 0, Value.int IntKind.u64 0, Value.int IntKind.u64 0, Value.int IntKind.u64 0, Value.int IntKind.u32 0, Value.int IntKind.u32 0, Value.int IntKind.u32 0, Value.int IntKind.u32 0, Value.int IntKind.u32 0, Value.int IntKind.u32 0, Value.int IntKind.u32 0, Value.int IntKind.u32 0, Value.int IntKind.u32 0, Value.int IntKind.i64 0, Value.bool false] 31)) (show w.heap.size ≤ w7.heap.size by omega) (vc d))
  generalize hw8 : (w7.alloc (.cells #[Value.int IntKind.u32 0, Value.int IntKind.u32 0, Value.int IntKind.u32 0, Value.int IntKind.u32 0, Value.int IntKind.u32 0, Value.int IntKind.u32 0, Value.int IntKind.u32 0, Value.int IntKind.u32 0, Value.int IntKind.u32 0, Value.int IntKind.u32 0, Value.int IntKind.u32 0, Value.int IntKind.u32 0, Value.int IntKind.u32 0, Value.int IntKind.u32 0, Value.int IntKind.u32 0, Value.int IntKind.u32 0, Value.int IntKind.u64 0, Value.int IntKind.u64 0, Value.int IntKind.u64 0, Value.int IntKind.u64 0, Value.int IntKind.u64 0, Value.int IntKind.u64 0, Value.int IntKind.u64 0, Value.int IntKind.u64 0, Value.int IntKind.u32 0, Value.int IntKind.u32 0, Value.int IntKind.u32 0, Value.int IntKind.u32 0, Value.int IntKind.u32 0, Value.int IntKind.u32 0, Value.int IntKind.u32 0, Value.int IntKind.u32 0, Value.int IntKind.u32 0, Value.int IntKind.i64 0, Value.bool false] 31)).setRow w7.heap.size (vc d) = w8 at *
  clear hw8 B7 X7 H7
  generalize w6.heap.size = g2 at *
  generalize w7.heap.size = g3 at *
  go_wp2_with (first | refine ldg rfl _ rfl g2 rfl x2 (by exact X8.out) ?_ | refine ldg rfl _ rfl w.heap.size rfl c (by exact B8.out) ?_ | refine ldg rfl _ rfl g3 rfl d (by exact D8.out) ?_)
  refine (check_calls _ hfd).mono ?_
  rintro e w9 ⟨rfl, hB⟩
  rw [HDK.out]
  have B9 := Aside0.mk (blk_below B8.out hB)
  have D9 := Aside0.mk (blk_below D8.out hB)
  have H9 := Aside0.mk (below_step H8.out hB)
  clear hB B8 D8 H8 X8
  go_wp2_with (first | refine ld rfl _ rfl g3 rfl d (by exact D9.out) ?_)
  refine (want255 d _ M m hfd HM.out M1 HLE.out HCAN.out).mono ?_
  rintro e wa ⟨rfl, hB⟩
  have BA := Aside0.mk (blk_below B9.out hB)
  have DA := Aside0.mk (blk_below D9.out hB)
  have HA := Aside0.mk (below_step H9.out hB)
  clear hB B9 D9 H9
  have c33 := (blk_cell BA.out 33).trans (get33 c)
  have d33 := (blk_cell DA.out 33).trans (get33 d)
  go_wp2_with (first | refine ldg27 rfl _ rfl g3 rfl d (by exact DA.out) ?_ | refine ldg27 rfl _ rfl w.heap.size rfl c (by exact BA.out) ?_ | refine ldg29 rfl _ rfl g3 rfl d (by exact DA.out) ?_ | refine ldg29 rfl _ rfl w.heap.size rfl c (by exact BA.out) ?_)
  go_ret
  exact ⟨rfl, HA.out⟩

theorem back_bad_2 (hf : Wf c) (t0 : 0 ≤ tv) (t1 : tv < 4294967296) (HC : Aside0 ((Kd.int .u8).C w A l.length l)) (hc : l.length ≤ cap) (hl : Aside0 (∀ x ∈ l, 0 ≤ x ∧ x < 256)) (hn : l.length ≤ 140737488351232) (HX : Aside0 (decR l = (zc, y))) (q0 : (y == 0) = false) (q0n : (y != 0) = true) (HCK : Aside0 (checkC c = 0)) (HEL : Aside0 (encL c = encB c)) (x2 : Cx) (HX2 : Aside0 (decR (encB c) = (x2, 0))) (q2 : cxEq x2 c = true) (d : Cx) (HD : Aside0 (enterC c n tv = d)) (hfd : Wf d) (HDK : Aside0 (checkC d = 0)) (HCAN : Aside0 (canB d = false)) (M m : Nat) (HM : Aside0 (d.ma = (M : Int))) (M1 : M < 4294967296) (HLE : Aside0 (Least (255 &&& M) m)) (p0 : (c.ha == 0) = true) (p0n : (c.ha != 0) = false) (p1 : (d.ha == 0) = false) (p1n : (d.ha != 0) = true) (r0 : regsEq d c = true) (r1 : ctlEq d c = true) :
    Calls Try.prog 10 #[.agg (vc c), .int .i64 n, .int .u32 tv, .slice A l.length cap] w fun e w' => e = .returned (.bool true) ∧ Below w.heap.size w w' := by
  go_enter Try.func10, Try.ntmps10
  go_wp2_with fail
  refine (works_calls _).mono ?_
  rintro e w1 ⟨rfl, hB⟩
  have B1 := Aside0.mk ((hB.block w.heap.size (by simp)).trans (heap_alloc_new w _))
  have H1 := Aside0.mk ((below_alloc (Below.refl w.heap.size w) _).trans (hB.mono (by simp)))
  clear hB
  go_wp2_with fail
  refine (decs A cap l _ (Kd.C_below HC.out H1.out) hc hl.out hn).1.mono ?_
  rintro e w2 ⟨rfl, hB⟩
  rw [HX.out]
  have B2 := Aside0.mk (blk_below B1.out hB)
  have H2 := Aside0.mk (below_step H1.out hB)
  have l2 := blk_lt B2.out
  clear hB B1 H1
  have B4 := Aside0.mk (row_far (blk_alloc B2.out (.cells #[Value.int IntKind.u32 0, Value.int IntKind.u32 0, Value.int IntKind.u32 0, Value.int IntKind.u32 0, Value.int IntKind.u32 0, Value.int IntKind.u32 0, Value.int IntKind.u32 0, Value.int IntKind.u32 0, Value.int IntKind.u32 0, Value.int IntKind.u32 0, Value.int IntKind.u32 0, Value.int IntKind.u32 0, Value.int IntKind.u32 0, Value.int IntKind.u32 0, Value.int IntKind.u32 0, Value.int IntKind.u32 0, Value.int IntKind.u64 0, Value.int IntKind.u64 0, Value.int IntKind.u64 0, Value.int IntKind.u64 0, Value.int IntKind.u64 0, Value.int IntKind.u64 0, Value.int IntKind.u64 0, Value.int IntKind.u64 0, Value.int IntKind.u32 0, Value.int IntKind.u32 0, Value.int IntKind.u32 0, Value.int IntKind.u32 0, Value.int IntKind.u32 0, Value.int IntKind.u32 0, Value.int IntKind.u32 0, Value.int IntKind.u32 0, Value.int IntKind.u32 0, Value.int IntKind.i64 0, Value.bool false] 31)) (vc zc) (show w.heap.size ≠ w2.heap.size by omega))
  have H4 := Aside0.mk (below_row (below_alloc H2.out (.cells #[Value.int IntKind.u32 0, Value.int IntKind.u32 0, Value.int IntKind.u32 0, Value.int IntKind.u32 0, Value.int IntKind.u32 0, Value.int IntKind.u32 0, Value.int IntKind.u32 0, Value.int IntKind.u32 0, Value.int IntKind.u32 0, Value.int IntKind.u32 0, Value.int IntKind.u32 0, Value.int IntKind.u32 0, Value.int IntKind.u32 0, Value.int IntKind.u32 0, Value.int IntKind.u32 0, Value.int IntKind.u32 0, Value.int IntKind.u64 0, Value.int IntKind.u64 0, Value.int IntKind.u64 0, Value.int IntKind.u64 0, Value.int IntKind.u64 0, Value.int IntKind.u64 0, Value.int IntKind.u64 0, Value.int IntKind.u64 0, Value.int IntKind.u32 0, Value.int IntKind.u32 0, Value.int IntKind.u32 0, Value.int IntKind.u32 0, Value.int IntKind.u32 0, Value.int IntKind.u32 0, Value.int IntKind.u32 0, Value.int IntKind.u32 0, Value.int IntKind.u32 0, Value.int IntKind.i64 0, Value.bool false] 31)) (show w.heap.size ≤ w2.heap.size by omega) (vc zc))
  go_wp2_with (first | refine ld rfl _ rfl w2.heap.size rfl zc (by exact row_new (heap_alloc_new _ _) _) ?_ | refine ld rfl _ rfl w.heap.size rfl c (by exact B4.out) ?_ | refine st rfl _ _ rfl w2.heap.size _ rfl rfl zc (by exact heap_alloc_new _ _) ?_)
  refine (enc_calls c _ hf).mono ?_
  rintro e w5 ⟨A5, k5, rfl, hk5, hC5, hB⟩
  rw [HEL.out] at hC5 hk5 ⊢
  rw [HCK.out]
  have C5 := Aside0.mk hC5
  have B5 := Aside0.mk (blk_below B4.out hB)
  have H5 := Aside0.mk (below_step H4.out hB)
  clear hB hC5 B4 H4
  go_wp2_with fail
  refine (decs A5 k5 (encB c) _ C5.out hk5 (enc_bytes c) (by rw [enc_len]; omega)).1.mono ?_
  rintro e w6 ⟨rfl, hB⟩
  rw [HX2.out, enc_len]
  have B6 := Aside0.mk (blk_below B5.out hB)
  have H6 := Aside0.mk (below_step H5.out hB)
  have l6 := blk_lt B6.out
  clear hB B5 H5 C5 hk5
  go_wp2_with (first | refine ld rfl _ rfl w.heap.size rfl c (by exact row_far (blk_alloc B6.out _) _ (by omega)) ?_ | refine st rfl _ _ rfl w6.heap.size _ rfl rfl zc (by exact heap_alloc_new _ _) ?_)
  refine (enter_calls c n tv _ hf.st.1 hf.st.2).mono ?_
  rintro e w7 ⟨rfl, hB⟩
  rw [HD.out]
  have B7 := Aside0.mk (blk_below (row_far (blk_alloc B6.out (.cells #[Value.int IntKind.u32 0, Value.int IntKind.u32 0, Value.int IntKind.u32 0, Value.int IntKind.u32 0, Value.int IntKind.u32 0, Value.int IntKind.u32 0, Value.int IntKind.u32 0, Value.int IntKind.u32 0, Value.int IntKind.u32 0, Value.int IntKind.u32 0, Value.int IntKind.u32 0, Value.int IntKind.u32 0, Value.int IntKind.u32 0, Value.int IntKind.u32 0, Value.int IntKind.u32 0, Value.int IntKind.u32 0, Value.int IntKind.u64 0, Value.int IntKind.u64 0, Value.int IntKind.u64 0, Value.int IntKind.u64 0, Value.int IntKind.u64 0, Value.int IntKind.u64 0, Value.int IntKind.u64 0, Value.int IntKind.u64 0, Value.int IntKind.u32 0, Value.int IntKind.u32 0, Value.int IntKind.u32 0, Value.int IntKind.u32 0, Value.int IntKind.u32 0, Value.int IntKind.u32 0, Value.int IntKind.u32 0, Value.int IntKind.u32 0, Value.int IntKind.u32 0, Value.int IntKind.i64 0, Value.bool false] 31)) (vc x2) (show w.heap.size ≠ w6.heap.size by omega)) hB)
  have X7 := Aside0.mk (blk_below (row_new (heap_alloc_new w6 (.cells #[Value.int IntKind.u32 0, Value.int IntKind.u32 0, Value.int IntKind.u32 0, Value.int IntKind.u32 0, Value.int IntKind.u32 0, Value.int IntKind.u32 0, Value.int IntKind.u32 0, Value.int IntKind.u32 0, Value.int IntKind.u32 0, Value.int IntKind.u32 0, Value.int IntKind.u32 0, Value.int IntKind.u32 0, Value.int IntKind.u32 0, Value.int IntKind.u32 0, Value.int IntKind.u32 0, Value.int IntKind.u32 0, Value.int IntKind.u64 0, Value.int IntKind.u64 0, Value.int IntKind.u64 0, Value.int IntKind.u64 0, Value.int IntKind.u64 0, Value.int IntKind.u64 0, Value.int IntKind.u64 0, Value.int IntKind.u64 0, Value.int IntKind.u32 0, Value.int IntKind.u32 0, Value.int IntKind.u32 0, Value.int IntKind.u32 0, Value.int IntKind.u32 0, Value.int IntKind.u32 0, Value.int IntKind.u32 0, Value.int IntKind.u32 0, Value.int IntKind.u32 0, Value.int IntKind.i64 0, Value.bool false] 31)) (vc x2)) hB)
  have H7 := Aside0.mk (below_step (below_row (below_alloc H6.out (.cells #[Value.int IntKind.u32 0, Value.int IntKind.u32 0, Value.int IntKind.u32 0, Value.int IntKind.u32 0, Value.int IntKind.u32 0, Value.int IntKind.u32 0, Value.int IntKind.u32 0, Value.int IntKind.u32 0, Value.int IntKind.u32 0, Value.int IntKind.u32 0, Value.int IntKind.u32 0, Value.int IntKind.u32 0, Value.int IntKind.u32 0, Value.int IntKind.u32 0, Value.int IntKind.u32 0, Value.int IntKind.u32 0, Value.int IntKind.u64 0, Value.int IntKind.u64 0, Value.int IntKind.u64 0, Value.int IntKind.u64 0, Value.int IntKind.u64 0, Value.int IntKind.u64 0, Value.int IntKind.u64 0, Value.int IntKind.u64 0, Value.int IntKind.u32 0, Value.int IntKind.u32 0, Value.int IntKind.u32 0, Value.int IntKind.u32 0, Value.int IntKind.u32 0, Value.int IntKind.u32 0, Value.int IntKind.u32 0, Value.int IntKind.u32 0, Value.int IntKind.u32 0, Value.int IntKind.i64 0, Value.bool false] 31)) (show w.heap.size ≤ w6.heap.size by omega) (vc x2)) hB)
  have l7 := blk_lt X7.out
  clear hB B6 H6
  go_upto_region 15 with (first | refine st rfl _ _ rfl w7.heap.size _ rfl rfl zc (by exact heap_alloc_new _ _) ?_)
  have B8 := Aside0.mk (row_far (blk_alloc B7.out (.cells #[Value.int IntKind.u32 0, Value.int IntKind.u32 0, Value.int IntKind.u32 0, Value.int IntKind.u32 0, Value.int IntKind.u32 0, Value.int IntKind.u32 0, Value.int IntKind.u32 0, Value.int IntKind.u32 0, Value.int IntKind.u32 0, Value.int IntKind.u32 0, Value.int IntKind.u32 0, Value.int IntKind.u32 0, Value.int IntKind.u32 0, Value.int IntKind.u32 0, Value.int IntKind.u32 0, Value.int IntKind.u32 0, Value.int IntKind.u64 0, Value.int IntKind.u64 0, Value.int IntKind.u64 0, Value.int IntKind.u64 0, Value.int IntKind.u64 0, Value.int IntKind.u64 0, Value.int IntKind.u64 0, Value.int IntKind.u64 0, Value.int IntKind.u32 0, Value.int IntKind.u32 0, Value.int IntKind.u32 0, Value.int IntKind.u32 0, Value.int IntKind.u32 0, Value.int IntKind.u32 0, Value.int IntKind.u32 0, Value.int IntKind.u32 0, Value.int IntKind.u32 0, Value.int IntKind.i64 0, Value.bool false] 31)) (vc d) (show w.heap.size ≠ w7.heap.size by omega))
  have X8 := Aside0.mk (row_far (blk_alloc X7.out (.cells #[Value.int IntKind.u32 0, Value.int IntKind.u32 0, Value.int IntKind.u32 0, Value.int IntKind.u32 0, Value.int IntKind.u32 0, Value.int IntKind.u32 0, Value.int IntKind.u32 0, Value.int IntKind.u32 0, Value.int IntKind.u32 0, Value.int IntKind.u32 0, Value.int IntKind.u32 0, Value.int IntKind.u32 0, Value.int IntKind.u32 0, Value.int IntKind.u32 0, Value.int IntKind.u32 0, Value.int IntKind.u32 0, Value.int IntKind.u64 0, Value.int IntKind.u64 0, Value.int IntKind.u64 0, Value.int IntKind.u64 0, Value.int IntKind.u64 0, Value.int IntKind.u64 0, Value.int IntKind.u64 0, Value.int IntKind.u64 0, Value.int IntKind.u32 0, Value.int IntKind.u32 0, Value.int IntKind.u32 0, Value.int IntKind.u32 0, Value.int IntKind.u32 0, Value.int IntKind.u32 0, Value.int IntKind.u32 0, Value.int IntKind.u32 0, Value.int IntKind.u32 0, Value.int IntKind.i64 0, Value.bool false] 31)) (vc d) (show w6.heap.size ≠ w7.heap.size by omega))
  have D8 := Aside0.mk (row_new (heap_alloc_new w7 (.cells #[Value.int IntKind.u32 0, Value.int IntKind.u32 0, Value.int IntKind.u32 0, Value.int IntKind.u32 0, Value.int IntKind.u32 0, Value.int IntKind.u32 0, Value.int IntKind.u32 0, Value.int IntKind.u32 0, Value.int IntKind.u32 0, Value.int IntKind.u32 0, Value.int IntKind.u32 0, Value.int IntKind.u32 0, Value.int IntKind.u32 0, Value.int IntKind.u32 0, Value.int IntKind.u32 0, Value.int IntKind.u32 0, Value.int IntKind.u64 0, Value.int IntKind.u64 0, Value.int IntKind.u64 0, Value.int IntKind.u64 0, Value.int IntKind.u64 0, Value.int IntKind.u64 0, Value.int IntKind.u64 0, Value.int IntKind.u64 0, Value.int IntKind.u32 0, Value.int IntKind.u32 0, Value.int IntKind.u32 0, Value.int IntKind.u32 0, Value.int IntKind.u32 0, Value.int IntKind.u32 0, Value.int IntKind.u32 0, Value.int IntKind.u32 0, Value.int IntKind.u32 0, Value.int IntKind.i64 0, Value.bool false] 31)) (vc d))
  have H8 := Aside0.mk (below_row (below_alloc H7.out (.cells #[Value.int IntKind.u32 0, Value.int IntKind.u32 0, Value.int IntKind.u32 0, Value.int IntKind.u32 0, Value.int IntKind.u32 0, Value.int IntKind.u32 0, Value.int IntKind.u32 0, Value.int IntKind.u32 0, Value.int IntKind.u32 0, Value.int IntKind.u32 0, Value.int IntKind.u32 0, Value.int IntKind.u32 0, Value.int IntKind.u32 0, Value.int IntKind.u32 0, Value.int IntKind.u32 0, Value.int IntKind.u32 0, Value.int IntKind.u64 0, Value.int IntKind.u64 0, Value.int IntKind.u64 0, Value.int IntKind.u64 0, Value.int IntKind.u64 0, Value.int IntKind.u64 0, Value.int IntKind.u64 0, Value.int IntKind.u64 0, Value.int IntKind.u32 0, Value.int IntKind.u32 0, Value.int IntKind.u32 0, Value.int IntKind.u32 0, Value.int IntKind.u32 0, Value.int IntKind.u32 0, Value.int IntKind.u32 0, Value.int IntKind.u32 0, Value.int IntKind.u32 0, Value.int IntKind.i64 0, Value.bool false] 31)) (show w.heap.size ≤ w7.heap.size by omega) (vc d))
  generalize hw8 : (w7.alloc (.cells #[Value.int IntKind.u32 0, Value.int IntKind.u32 0, Value.int IntKind.u32 0, Value.int IntKind.u32 0, Value.int IntKind.u32 0, Value.int IntKind.u32 0, Value.int IntKind.u32 0, Value.int IntKind.u32 0, Value.int IntKind.u32 0, Value.int IntKind.u32 0, Value.int IntKind.u32 0, Value.int IntKind.u32 0, Value.int IntKind.u32 0, Value.int IntKind.u32 0, Value.int IntKind.u32 0, Value.int IntKind.u32 0, Value.int IntKind.u64 0, Value.int IntKind.u64 0, Value.int IntKind.u64 0, Value.int IntKind.u64 0, Value.int IntKind.u64 0, Value.int IntKind.u64 0, Value.int IntKind.u64 0, Value.int IntKind.u64 0, Value.int IntKind.u32 0, Value.int IntKind.u32 0, Value.int IntKind.u32 0, Value.int IntKind.u32 0, Value.int IntKind.u32 0, Value.int IntKind.u32 0, Value.int IntKind.u32 0, Value.int IntKind.u32 0, Value.int IntKind.u32 0, Value.int IntKind.i64 0, Value.bool false] 31)).setRow w7.heap.size (vc d) = w8 at *
  clear hw8 B7 X7 H7
  generalize w6.heap.size = g2 at *
  generalize w7.heap.size = g3 at *
  go_wp2_with (first | refine ldg rfl _ rfl g2 rfl x2 (by exact X8.out) ?_ | refine ldg rfl _ rfl w.heap.size rfl c (by exact B8.out) ?_ | refine ldg rfl _ rfl g3 rfl d (by exact D8.out) ?_)
  refine (check_calls _ hfd).mono ?_
  rintro e w9 ⟨rfl, hB⟩
  rw [HDK.out]
  have B9 := Aside0.mk (blk_below B8.out hB)
  have D9 := Aside0.mk (blk_below D8.out hB)
  have H9 := Aside0.mk (below_step H8.out hB)
  clear hB B8 D8 H8 X8
  go_wp2_with (first | refine ld rfl _ rfl g3 rfl d (by exact D9.out) ?_)
  refine (want255 d _ M m hfd HM.out M1 HLE.out HCAN.out).mono ?_
  rintro e wa ⟨rfl, hB⟩
  have BA := Aside0.mk (blk_below B9.out hB)
  have DA := Aside0.mk (blk_below D9.out hB)
  have HA := Aside0.mk (below_step H9.out hB)
  clear hB B9 D9 H9
  have c33 := (blk_cell BA.out 33).trans (get33 c)
  have d33 := (blk_cell DA.out 33).trans (get33 d)
  go_wp2_with (first | refine ldg27 rfl _ rfl g3 rfl d (by exact DA.out) ?_ | refine ldg27 rfl _ rfl w.heap.size rfl c (by exact BA.out) ?_ | refine ldg29 rfl _ rfl g3 rfl d (by exact DA.out) ?_ | refine ldg29 rfl _ rfl w.heap.size rfl c (by exact BA.out) ?_)
  go_ret
  exact ⟨rfl, HA.out⟩

theorem back_bad_3 (hf : Wf c) (t0 : 0 ≤ tv) (t1 : tv < 4294967296) (HC : Aside0 ((Kd.int .u8).C w A l.length l)) (hc : l.length ≤ cap) (hl : Aside0 (∀ x ∈ l, 0 ≤ x ∧ x < 256)) (hn : l.length ≤ 140737488351232) (HX : Aside0 (decR l = (zc, y))) (q0 : (y == 0) = false) (q0n : (y != 0) = true) (HCK : Aside0 (checkC c = 0)) (HEL : Aside0 (encL c = encB c)) (x2 : Cx) (HX2 : Aside0 (decR (encB c) = (x2, 0))) (q2 : cxEq x2 c = true) (d : Cx) (HD : Aside0 (enterC c n tv = d)) (hfd : Wf d) (HDK : Aside0 (checkC d = 0)) (HCAN : Aside0 (canB d = false)) (M m : Nat) (HM : Aside0 (d.ma = (M : Int))) (M1 : M < 4294967296) (HLE : Aside0 (Least (255 &&& M) m)) (p0 : (c.ha == 0) = true) (p0n : (c.ha != 0) = false) (p1 : (d.ha == 0) = true) (p1n : (d.ha != 0) = false) (r : Cx) (HR : Aside0 (returnC d = r)) (hfr : Wf r) (HRK : Aside0 (checkC r = 0)) (r0 : regsEq r c = true) (s25 : r.st = c.st) (s34 : r.id = false) (s30 : r.ve = c.ve) (s32 : r.ma = c.ma) (s31 : r.sc = c.sc) :
    Calls Try.prog 10 #[.agg (vc c), .int .i64 n, .int .u32 tv, .slice A l.length cap] w fun e w' => e = .returned (.bool true) ∧ Below w.heap.size w w' := by
  go_enter Try.func10, Try.ntmps10
  go_wp2_with fail
  refine (works_calls _).mono ?_
  rintro e w1 ⟨rfl, hB⟩
  have B1 := Aside0.mk ((hB.block w.heap.size (by simp)).trans (heap_alloc_new w _))
  have H1 := Aside0.mk ((below_alloc (Below.refl w.heap.size w) _).trans (hB.mono (by simp)))
  clear hB
  go_wp2_with fail
  refine (decs A cap l _ (Kd.C_below HC.out H1.out) hc hl.out hn).1.mono ?_
  rintro e w2 ⟨rfl, hB⟩
  rw [HX.out]
  have B2 := Aside0.mk (blk_below B1.out hB)
  have H2 := Aside0.mk (below_step H1.out hB)
  have l2 := blk_lt B2.out
  clear hB B1 H1
  have B4 := Aside0.mk (row_far (blk_alloc B2.out (.cells #[Value.int IntKind.u32 0, Value.int IntKind.u32 0, Value.int IntKind.u32 0, Value.int IntKind.u32 0, Value.int IntKind.u32 0, Value.int IntKind.u32 0, Value.int IntKind.u32 0, Value.int IntKind.u32 0, Value.int IntKind.u32 0, Value.int IntKind.u32 0, Value.int IntKind.u32 0, Value.int IntKind.u32 0, Value.int IntKind.u32 0, Value.int IntKind.u32 0, Value.int IntKind.u32 0, Value.int IntKind.u32 0, Value.int IntKind.u64 0, Value.int IntKind.u64 0, Value.int IntKind.u64 0, Value.int IntKind.u64 0, Value.int IntKind.u64 0, Value.int IntKind.u64 0, Value.int IntKind.u64 0, Value.int IntKind.u64 0, Value.int IntKind.u32 0, Value.int IntKind.u32 0, Value.int IntKind.u32 0, Value.int IntKind.u32 0, Value.int IntKind.u32 0, Value.int IntKind.u32 0, Value.int IntKind.u32 0, Value.int IntKind.u32 0, Value.int IntKind.u32 0, Value.int IntKind.i64 0, Value.bool false] 31)) (vc zc) (show w.heap.size ≠ w2.heap.size by omega))
  have H4 := Aside0.mk (below_row (below_alloc H2.out (.cells #[Value.int IntKind.u32 0, Value.int IntKind.u32 0, Value.int IntKind.u32 0, Value.int IntKind.u32 0, Value.int IntKind.u32 0, Value.int IntKind.u32 0, Value.int IntKind.u32 0, Value.int IntKind.u32 0, Value.int IntKind.u32 0, Value.int IntKind.u32 0, Value.int IntKind.u32 0, Value.int IntKind.u32 0, Value.int IntKind.u32 0, Value.int IntKind.u32 0, Value.int IntKind.u32 0, Value.int IntKind.u32 0, Value.int IntKind.u64 0, Value.int IntKind.u64 0, Value.int IntKind.u64 0, Value.int IntKind.u64 0, Value.int IntKind.u64 0, Value.int IntKind.u64 0, Value.int IntKind.u64 0, Value.int IntKind.u64 0, Value.int IntKind.u32 0, Value.int IntKind.u32 0, Value.int IntKind.u32 0, Value.int IntKind.u32 0, Value.int IntKind.u32 0, Value.int IntKind.u32 0, Value.int IntKind.u32 0, Value.int IntKind.u32 0, Value.int IntKind.u32 0, Value.int IntKind.i64 0, Value.bool false] 31)) (show w.heap.size ≤ w2.heap.size by omega) (vc zc))
  go_wp2_with (first | refine ld rfl _ rfl w2.heap.size rfl zc (by exact row_new (heap_alloc_new _ _) _) ?_ | refine ld rfl _ rfl w.heap.size rfl c (by exact B4.out) ?_ | refine st rfl _ _ rfl w2.heap.size _ rfl rfl zc (by exact heap_alloc_new _ _) ?_)
  refine (enc_calls c _ hf).mono ?_
  rintro e w5 ⟨A5, k5, rfl, hk5, hC5, hB⟩
  rw [HEL.out] at hC5 hk5 ⊢
  rw [HCK.out]
  have C5 := Aside0.mk hC5
  have B5 := Aside0.mk (blk_below B4.out hB)
  have H5 := Aside0.mk (below_step H4.out hB)
  clear hB hC5 B4 H4
  go_wp2_with fail
  refine (decs A5 k5 (encB c) _ C5.out hk5 (enc_bytes c) (by rw [enc_len]; omega)).1.mono ?_
  rintro e w6 ⟨rfl, hB⟩
  rw [HX2.out, enc_len]
  have B6 := Aside0.mk (blk_below B5.out hB)
  have H6 := Aside0.mk (below_step H5.out hB)
  have l6 := blk_lt B6.out
  clear hB B5 H5 C5 hk5
  go_wp2_with (first | refine ld rfl _ rfl w.heap.size rfl c (by exact row_far (blk_alloc B6.out _) _ (by omega)) ?_ | refine st rfl _ _ rfl w6.heap.size _ rfl rfl zc (by exact heap_alloc_new _ _) ?_)
  refine (enter_calls c n tv _ hf.st.1 hf.st.2).mono ?_
  rintro e w7 ⟨rfl, hB⟩
  rw [HD.out]
  have B7 := Aside0.mk (blk_below (row_far (blk_alloc B6.out (.cells #[Value.int IntKind.u32 0, Value.int IntKind.u32 0, Value.int IntKind.u32 0, Value.int IntKind.u32 0, Value.int IntKind.u32 0, Value.int IntKind.u32 0, Value.int IntKind.u32 0, Value.int IntKind.u32 0, Value.int IntKind.u32 0, Value.int IntKind.u32 0, Value.int IntKind.u32 0, Value.int IntKind.u32 0, Value.int IntKind.u32 0, Value.int IntKind.u32 0, Value.int IntKind.u32 0, Value.int IntKind.u32 0, Value.int IntKind.u64 0, Value.int IntKind.u64 0, Value.int IntKind.u64 0, Value.int IntKind.u64 0, Value.int IntKind.u64 0, Value.int IntKind.u64 0, Value.int IntKind.u64 0, Value.int IntKind.u64 0, Value.int IntKind.u32 0, Value.int IntKind.u32 0, Value.int IntKind.u32 0, Value.int IntKind.u32 0, Value.int IntKind.u32 0, Value.int IntKind.u32 0, Value.int IntKind.u32 0, Value.int IntKind.u32 0, Value.int IntKind.u32 0, Value.int IntKind.i64 0, Value.bool false] 31)) (vc x2) (show w.heap.size ≠ w6.heap.size by omega)) hB)
  have X7 := Aside0.mk (blk_below (row_new (heap_alloc_new w6 (.cells #[Value.int IntKind.u32 0, Value.int IntKind.u32 0, Value.int IntKind.u32 0, Value.int IntKind.u32 0, Value.int IntKind.u32 0, Value.int IntKind.u32 0, Value.int IntKind.u32 0, Value.int IntKind.u32 0, Value.int IntKind.u32 0, Value.int IntKind.u32 0, Value.int IntKind.u32 0, Value.int IntKind.u32 0, Value.int IntKind.u32 0, Value.int IntKind.u32 0, Value.int IntKind.u32 0, Value.int IntKind.u32 0, Value.int IntKind.u64 0, Value.int IntKind.u64 0, Value.int IntKind.u64 0, Value.int IntKind.u64 0, Value.int IntKind.u64 0, Value.int IntKind.u64 0, Value.int IntKind.u64 0, Value.int IntKind.u64 0, Value.int IntKind.u32 0, Value.int IntKind.u32 0, Value.int IntKind.u32 0, Value.int IntKind.u32 0, Value.int IntKind.u32 0, Value.int IntKind.u32 0, Value.int IntKind.u32 0, Value.int IntKind.u32 0, Value.int IntKind.u32 0, Value.int IntKind.i64 0, Value.bool false] 31)) (vc x2)) hB)
  have H7 := Aside0.mk (below_step (below_row (below_alloc H6.out (.cells #[Value.int IntKind.u32 0, Value.int IntKind.u32 0, Value.int IntKind.u32 0, Value.int IntKind.u32 0, Value.int IntKind.u32 0, Value.int IntKind.u32 0, Value.int IntKind.u32 0, Value.int IntKind.u32 0, Value.int IntKind.u32 0, Value.int IntKind.u32 0, Value.int IntKind.u32 0, Value.int IntKind.u32 0, Value.int IntKind.u32 0, Value.int IntKind.u32 0, Value.int IntKind.u32 0, Value.int IntKind.u32 0, Value.int IntKind.u64 0, Value.int IntKind.u64 0, Value.int IntKind.u64 0, Value.int IntKind.u64 0, Value.int IntKind.u64 0, Value.int IntKind.u64 0, Value.int IntKind.u64 0, Value.int IntKind.u64 0, Value.int IntKind.u32 0, Value.int IntKind.u32 0, Value.int IntKind.u32 0, Value.int IntKind.u32 0, Value.int IntKind.u32 0, Value.int IntKind.u32 0, Value.int IntKind.u32 0, Value.int IntKind.u32 0, Value.int IntKind.u32 0, Value.int IntKind.i64 0, Value.bool false] 31)) (show w.heap.size ≤ w6.heap.size by omega) (vc x2)) hB)
  have l7 := blk_lt X7.out
  clear hB B6 H6
  go_upto_region 15 with (first | refine st rfl _ _ rfl w7.heap.size _ rfl rfl zc (by exact heap_alloc_new _ _) ?_)
  have B8 := Aside0.mk (row_far (blk_alloc B7.out (.cells #[Value.int IntKind.u32 0, Value.int IntKind.u32 0, Value.int IntKind.u32 0, Value.int IntKind.u32 0, Value.int IntKind.u32 0, Value.int IntKind.u32 0, Value.int IntKind.u32 0, Value.int IntKind.u32 0, Value.int IntKind.u32 0, Value.int IntKind.u32 0, Value.int IntKind.u32 0, Value.int IntKind.u32 0, Value.int IntKind.u32 0, Value.int IntKind.u32 0, Value.int IntKind.u32 0, Value.int IntKind.u32 0, Value.int IntKind.u64 0, Value.int IntKind.u64 0, Value.int IntKind.u64 0, Value.int IntKind.u64 0, Value.int IntKind.u64 0, Value.int IntKind.u64 0, Value.int IntKind.u64 0, Value.int IntKind.u64 0, Value.int IntKind.u32 0, Value.int IntKind.u32 0, Value.int IntKind.u32 0, Value.int IntKind.u32 0, Value.int IntKind.u32 0, Value.int IntKind.u32 0, Value.int IntKind.u32 0, Value.int IntKind.u32 0, Value.int IntKind.u32 0, Value.int IntKind.i64 0, Value.bool false] 31)) (vc d) (show w.heap.size ≠ w7.heap.size by omega))
  have X8 := Aside0.mk (row_far (blk_alloc X7.out (.cells #[Value.int IntKind.u32 0, Value.int IntKind.u32 0, Value.int IntKind.u32 0, Value.int IntKind.u32 0, Value.int IntKind.u32 0, Value.int IntKind.u32 0, Value.int IntKind.u32 0, Value.int IntKind.u32 0, Value.int IntKind.u32 0, Value.int IntKind.u32 0, Value.int IntKind.u32 0, Value.int IntKind.u32 0, Value.int IntKind.u32 0, Value.int IntKind.u32 0, Value.int IntKind.u32 0, Value.int IntKind.u32 0, Value.int IntKind.u64 0, Value.int IntKind.u64 0, Value.int IntKind.u64 0, Value.int IntKind.u64 0, Value.int IntKind.u64 0, Value.int IntKind.u64 0, Value.int IntKind.u64 0, Value.int IntKind.u64 0, Value.int IntKind.u32 0, Value.int IntKind.u32 0, Value.int IntKind.u32 0, Value.int IntKind.u32 0, Value.int IntKind.u32 0, Value.int IntKind.u32 0, Value.int IntKind.u32 0, Value.int IntKind.u32 0, Value.int IntKind.u32 0, Value.int IntKind.i64 0, Value.bool false] 31)) (vc d) (show w6.heap.size ≠ w7.heap.size by omega))
  have D8 := Aside0.mk (row_new (heap_alloc_new w7 (.cells #[Value.int IntKind.u32 0, Value.int IntKind.u32 0, Value.int IntKind.u32 0, Value.int IntKind.u32 0, Value.int IntKind.u32 0, Value.int IntKind.u32 0, Value.int IntKind.u32 0, Value.int IntKind.u32 0, Value.int IntKind.u32 0, Value.int IntKind.u32 0, Value.int IntKind.u32 0, Value.int IntKind.u32 0, Value.int IntKind.u32 0, Value.int IntKind.u32 0, Value.int IntKind.u32 0, Value.int IntKind.u32 0, Value.int IntKind.u64 0, Value.int IntKind.u64 0, Value.int IntKind.u64 0, Value.int IntKind.u64 0, Value.int IntKind.u64 0, Value.int IntKind.u64 0, Value.int IntKind.u64 0, Value.int IntKind.u64 0, Value.int IntKind.u32 0, Value.int IntKind.u32 0, Value.int IntKind.u32 0, Value.int IntKind.u32 0, Value.int IntKind.u32 0, Value.int IntKind.u32 0, Value.int IntKind.u32 0, Value.int IntKind.u32 0, Value.int IntKind.u32 0, Value.int IntKind.i64 0, Value.bool false] 31)) (vc d))
  have H8 := Aside0.mk (below_row (below_alloc H7.out (.cells #[Value.int IntKind.u32 0, Value.int IntKind.u32 0, Value.int IntKind.u32 0, Value.int IntKind.u32 0, Value.int IntKind.u32 0, Value.int IntKind.u32 0, Value.int IntKind.u32 0, Value.int IntKind.u32 0, Value.int IntKind.u32 0, Value.int IntKind.u32 0, Value.int IntKind.u32 0, Value.int IntKind.u32 0, Value.int IntKind.u32 0, Value.int IntKind.u32 0, Value.int IntKind.u32 0, Value.int IntKind.u32 0, Value.int IntKind.u64 0, Value.int IntKind.u64 0, Value.int IntKind.u64 0, Value.int IntKind.u64 0, Value.int IntKind.u64 0, Value.int IntKind.u64 0, Value.int IntKind.u64 0, Value.int IntKind.u64 0, Value.int IntKind.u32 0, Value.int IntKind.u32 0, Value.int IntKind.u32 0, Value.int IntKind.u32 0, Value.int IntKind.u32 0, Value.int IntKind.u32 0, Value.int IntKind.u32 0, Value.int IntKind.u32 0, Value.int IntKind.u32 0, Value.int IntKind.i64 0, Value.bool false] 31)) (show w.heap.size ≤ w7.heap.size by omega) (vc d))
  generalize hw8 : (w7.alloc (.cells #[Value.int IntKind.u32 0, Value.int IntKind.u32 0, Value.int IntKind.u32 0, Value.int IntKind.u32 0, Value.int IntKind.u32 0, Value.int IntKind.u32 0, Value.int IntKind.u32 0, Value.int IntKind.u32 0, Value.int IntKind.u32 0, Value.int IntKind.u32 0, Value.int IntKind.u32 0, Value.int IntKind.u32 0, Value.int IntKind.u32 0, Value.int IntKind.u32 0, Value.int IntKind.u32 0, Value.int IntKind.u32 0, Value.int IntKind.u64 0, Value.int IntKind.u64 0, Value.int IntKind.u64 0, Value.int IntKind.u64 0, Value.int IntKind.u64 0, Value.int IntKind.u64 0, Value.int IntKind.u64 0, Value.int IntKind.u64 0, Value.int IntKind.u32 0, Value.int IntKind.u32 0, Value.int IntKind.u32 0, Value.int IntKind.u32 0, Value.int IntKind.u32 0, Value.int IntKind.u32 0, Value.int IntKind.u32 0, Value.int IntKind.u32 0, Value.int IntKind.u32 0, Value.int IntKind.i64 0, Value.bool false] 31)).setRow w7.heap.size (vc d) = w8 at *
  clear hw8 B7 X7 H7
  generalize w6.heap.size = g2 at *
  generalize w7.heap.size = g3 at *
  go_wp2_with (first | refine ldg rfl _ rfl g2 rfl x2 (by exact X8.out) ?_ | refine ldg rfl _ rfl w.heap.size rfl c (by exact B8.out) ?_ | refine ldg rfl _ rfl g3 rfl d (by exact D8.out) ?_)
  refine (check_calls _ hfd).mono ?_
  rintro e w9 ⟨rfl, hB⟩
  rw [HDK.out]
  have B9 := Aside0.mk (blk_below B8.out hB)
  have D9 := Aside0.mk (blk_below D8.out hB)
  have H9 := Aside0.mk (below_step H8.out hB)
  clear hB B8 D8 H8 X8
  go_wp2_with (first | refine ld rfl _ rfl g3 rfl d (by exact D9.out) ?_)
  refine (want255 d _ M m hfd HM.out M1 HLE.out HCAN.out).mono ?_
  rintro e wa ⟨rfl, hB⟩
  have BA := Aside0.mk (blk_below B9.out hB)
  have DA := Aside0.mk (blk_below D9.out hB)
  have HA := Aside0.mk (below_step H9.out hB)
  clear hB B9 D9 H9
  have c33 := (blk_cell BA.out 33).trans (get33 c)
  have d33 := (blk_cell DA.out 33).trans (get33 d)
  go_wp2_with (first | refine ld rfl _ rfl g3 rfl d (by exact DA.out) ?_)
  refine (return_calls d _).mono ?_
  rintro e wb ⟨rfl, hB⟩
  rw [HR.out]
  have BB := Aside0.mk (blk_below BA.out hB)
  have HB := Aside0.mk (below_step HA.out hB)
  have lb := blk_lt BB.out
  clear hB BA HA DA c33 d33
  go_upto_region 21 with (first | refine st rfl _ _ rfl wb.heap.size _ rfl rfl zc (by exact heap_alloc_new _ _) ?_)
  have BD := Aside0.mk (row_far (blk_alloc BB.out (.cells #[Value.int IntKind.u32 0, Value.int IntKind.u32 0, Value.int IntKind.u32 0, Value.int IntKind.u32 0, Value.int IntKind.u32 0, Value.int IntKind.u32 0, Value.int IntKind.u32 0, Value.int IntKind.u32 0, Value.int IntKind.u32 0, Value.int IntKind.u32 0, Value.int IntKind.u32 0, Value.int IntKind.u32 0, Value.int IntKind.u32 0, Value.int IntKind.u32 0, Value.int IntKind.u32 0, Value.int IntKind.u32 0, Value.int IntKind.u64 0, Value.int IntKind.u64 0, Value.int IntKind.u64 0, Value.int IntKind.u64 0, Value.int IntKind.u64 0, Value.int IntKind.u64 0, Value.int IntKind.u64 0, Value.int IntKind.u64 0, Value.int IntKind.u32 0, Value.int IntKind.u32 0, Value.int IntKind.u32 0, Value.int IntKind.u32 0, Value.int IntKind.u32 0, Value.int IntKind.u32 0, Value.int IntKind.u32 0, Value.int IntKind.u32 0, Value.int IntKind.u32 0, Value.int IntKind.i64 0, Value.bool false] 31)) (vc r) (show w.heap.size ≠ wb.heap.size by omega))
  have RD := Aside0.mk (row_new (heap_alloc_new wb (.cells #[Value.int IntKind.u32 0, Value.int IntKind.u32 0, Value.int IntKind.u32 0, Value.int IntKind.u32 0, Value.int IntKind.u32 0, Value.int IntKind.u32 0, Value.int IntKind.u32 0, Value.int IntKind.u32 0, Value.int IntKind.u32 0, Value.int IntKind.u32 0, Value.int IntKind.u32 0, Value.int IntKind.u32 0, Value.int IntKind.u32 0, Value.int IntKind.u32 0, Value.int IntKind.u32 0, Value.int IntKind.u32 0, Value.int IntKind.u64 0, Value.int IntKind.u64 0, Value.int IntKind.u64 0, Value.int IntKind.u64 0, Value.int IntKind.u64 0, Value.int IntKind.u64 0, Value.int IntKind.u64 0, Value.int IntKind.u64 0, Value.int IntKind.u32 0, Value.int IntKind.u32 0, Value.int IntKind.u32 0, Value.int IntKind.u32 0, Value.int IntKind.u32 0, Value.int IntKind.u32 0, Value.int IntKind.u32 0, Value.int IntKind.u32 0, Value.int IntKind.u32 0, Value.int IntKind.i64 0, Value.bool false] 31)) (vc r))
  have HD2 := Aside0.mk (below_row (below_alloc HB.out (.cells #[Value.int IntKind.u32 0, Value.int IntKind.u32 0, Value.int IntKind.u32 0, Value.int IntKind.u32 0, Value.int IntKind.u32 0, Value.int IntKind.u32 0, Value.int IntKind.u32 0, Value.int IntKind.u32 0, Value.int IntKind.u32 0, Value.int IntKind.u32 0, Value.int IntKind.u32 0, Value.int IntKind.u32 0, Value.int IntKind.u32 0, Value.int IntKind.u32 0, Value.int IntKind.u32 0, Value.int IntKind.u32 0, Value.int IntKind.u64 0, Value.int IntKind.u64 0, Value.int IntKind.u64 0, Value.int IntKind.u64 0, Value.int IntKind.u64 0, Value.int IntKind.u64 0, Value.int IntKind.u64 0, Value.int IntKind.u64 0, Value.int IntKind.u32 0, Value.int IntKind.u32 0, Value.int IntKind.u32 0, Value.int IntKind.u32 0, Value.int IntKind.u32 0, Value.int IntKind.u32 0, Value.int IntKind.u32 0, Value.int IntKind.u32 0, Value.int IntKind.u32 0, Value.int IntKind.i64 0, Value.bool false] 31)) (show w.heap.size ≤ wb.heap.size by omega) (vc r))
  generalize hwd : (wb.alloc (.cells #[Value.int IntKind.u32 0, Value.int IntKind.u32 0, Value.int IntKind.u32 0, Value.int IntKind.u32 0, Value.int IntKind.u32 0, Value.int IntKind.u32 0, Value.int IntKind.u32 0, Value.int IntKind.u32 0, Value.int IntKind.u32 0, Value.int IntKind.u32 0, Value.int IntKind.u32 0, Value.int IntKind.u32 0, Value.int IntKind.u32 0, Value.int IntKind.u32 0, Value.int IntKind.u32 0, Value.int IntKind.u32 0, Value.int IntKind.u64 0, Value.int IntKind.u64 0, Value.int IntKind.u64 0, Value.int IntKind.u64 0, Value.int IntKind.u64 0, Value.int IntKind.u64 0, Value.int IntKind.u64 0, Value.int IntKind.u64 0, Value.int IntKind.u32 0, Value.int IntKind.u32 0, Value.int IntKind.u32 0, Value.int IntKind.u32 0, Value.int IntKind.u32 0, Value.int IntKind.u32 0, Value.int IntKind.u32 0, Value.int IntKind.u32 0, Value.int IntKind.u32 0, Value.int IntKind.i64 0, Value.bool false] 31)).setRow wb.heap.size (vc r) = wd at *
  clear hwd BB HB
  generalize wb.heap.size = g4 at *
  have r25 := (blk_cell RD.out 25).trans (get25 r)
  have r34 := (blk_cell RD.out 34).trans (get34 r)
  have b25 := (blk_cell BD.out 25).trans (get25 c)
  rw [s25] at r25
  rw [s34] at r34
  clear s25 s34
  go_wp2_with (first | refine ldg27 rfl _ rfl g4 rfl r (by exact RD.out) ?_ | refine ldg27 rfl _ rfl w.heap.size rfl c (by exact BD.out) ?_ | refine ldg rfl _ rfl g4 rfl r (by exact RD.out) ?_)
  refine (check_calls _ hfr).mono ?_
  rintro e we ⟨rfl, hB⟩
  rw [HRK.out]
  have BE := Aside0.mk (blk_below BD.out hB)
  have RE := Aside0.mk (blk_below RD.out hB)
  have HE := Aside0.mk (below_step HD2.out hB)
  clear hB BD RD HD2 r25 r34 b25
  have r30 := (blk_cell RE.out 30).trans (get30 r)
  have r31 := (blk_cell RE.out 31).trans (get31 r)
  have r32 := (blk_cell RE.out 32).trans (get32 r)
  rw [s30] at r30
  rw [s31] at r31
  rw [s32] at r32
  clear s30 s31 s32
  have b30 := (blk_cell BE.out 30).trans (get30 c)
  have b31 := (blk_cell BE.out 31).trans (get31 c)
  have b32 := (blk_cell BE.out 32).trans (get32 c)
  go_wp2_with fail
  go_ret
  exact ⟨rfl, HE.out⟩

theorem checkC_right {c : Cx} (h : RightC c) : checkC c = 0 := by
  unfold checkC
  rw [rightB_true h]
  rfl
theorem encL_right {c : Cx} (h : RightC c) : encL c = encB c := by
  unfold encL
  rw [rightB_true h]
  rfl
theorem ne_of {a : Int} {b : Bool} (h : (a == 0) = b) : (a != 0) = !b := by rw [bne, h]
theorem law (hf : Wf c) (t0 : 0 ≤ tv) (t1 : tv < 4294967296) (HC : Aside0 ((Kd.int .u8).C w A l.length l)) (hc : l.length ≤ cap) (hl : Aside0 (∀ x ∈ l, 0 ≤ x ∧ x < 256)) (hn : l.length ≤ 140737488351232) :
    Calls Try.prog 10 #[.agg (vc c), .int .i64 n, .int .u32 tv, .slice A l.length cap] w fun e w' => e = .returned (.bool true) ∧ Below w.heap.size w w' := by
  by_cases hr : RightC c
  · obtain ⟨x2, hX2, hq2⟩ := decR_enc hf hr
    have hfd := wf_enter hf n tv t0 t1
    have hdk := checkC_right (right_enter hr n tv)
    have hcan := can_enter c n tv
    have hhalt := enter_halted c n tv
    have hback := enter_back c n tv
    have hrb := right_back hr n tv
    have hfb := wf_back hf n tv t0 t1
    have hck := checkC_right hr
    have hel := encL_right hr
    obtain ⟨M, hM⟩ := Int.eq_ofNat_of_zero_le hfd.ma.1
    have M1 := hfd.ma.2
    obtain ⟨m, g1, g2, g3⟩ := least (255 &&& M) 8
    generalize hd : enterC c n tv = d at *
    have M2 : M < 4294967296 := by omega
    by_cases h0 : c.ha = 0
    · have p0 : (c.ha == 0) = true := by simp [h0]
      by_cases h1 : d.ha = 0
      · have p1 : (d.ha == 0) = true := by simp [h1]
        obtain ⟨e1, e2⟩ := hback h0 h1
        rcases decR_back hl.out with ⟨x, hX, hfx, hrx, hE⟩ | ⟨y, hX, hq⟩
        · exact back_ok_3 c n tv A cap l x w hf t0 t1 HC hc hl hn ⟨hX⟩ hfx ⟨(encL_right hrx).trans hE⟩ ⟨checkC_right hrx⟩ ⟨hck⟩ ⟨hel⟩ x2 ⟨hX2⟩ hq2 d ⟨hd⟩ hfd ⟨hdk⟩ ⟨hcan⟩ M m ⟨hM⟩ M2 ⟨⟨g1, g2, g3⟩⟩ p0 ((ne_of p0).trans rfl) p1 ((ne_of p1).trans rfl) _ ⟨e2⟩ hfb ⟨checkC_right hrb⟩ (regs_back c n tv) rfl rfl rfl rfl rfl
        · exact back_bad_3 c n tv A cap l y w hf t0 t1 HC hc hl hn ⟨hX⟩ hq ((ne_of hq).trans rfl) ⟨hck⟩ ⟨hel⟩ x2 ⟨hX2⟩ hq2 d ⟨hd⟩ hfd ⟨hdk⟩ ⟨hcan⟩ M m ⟨hM⟩ M2 ⟨⟨g1, g2, g3⟩⟩ p0 ((ne_of p0).trans rfl) p1 ((ne_of p1).trans rfl) _ ⟨e2⟩ hfb ⟨checkC_right hrb⟩ (regs_back c n tv) rfl rfl rfl rfl rfl
      · have p1 : (d.ha == 0) = false := by simp [h1]
        obtain ⟨r0, r1⟩ := hhalt (.inr h1)
        rcases decR_back hl.out with ⟨x, hX, hfx, hrx, hE⟩ | ⟨y, hX, hq⟩
        · exact back_ok_2 c n tv A cap l x w hf t0 t1 HC hc hl hn ⟨hX⟩ hfx ⟨(encL_right hrx).trans hE⟩ ⟨checkC_right hrx⟩ ⟨hck⟩ ⟨hel⟩ x2 ⟨hX2⟩ hq2 d ⟨hd⟩ hfd ⟨hdk⟩ ⟨hcan⟩ M m ⟨hM⟩ M2 ⟨⟨g1, g2, g3⟩⟩ p0 ((ne_of p0).trans rfl) p1 ((ne_of p1).trans rfl) r0 r1
        · exact back_bad_2 c n tv A cap l y w hf t0 t1 HC hc hl hn ⟨hX⟩ hq ((ne_of hq).trans rfl) ⟨hck⟩ ⟨hel⟩ x2 ⟨hX2⟩ hq2 d ⟨hd⟩ hfd ⟨hdk⟩ ⟨hcan⟩ M m ⟨hM⟩ M2 ⟨⟨g1, g2, g3⟩⟩ p0 ((ne_of p0).trans rfl) p1 ((ne_of p1).trans rfl) r0 r1
    · have p0 : (c.ha == 0) = false := by simp [h0]
      obtain ⟨r0, r1⟩ := hhalt (.inl h0)
      rcases decR_back hl.out with ⟨x, hX, hfx, hrx, hE⟩ | ⟨y, hX, hq⟩
      · exact back_ok_1 c n tv A cap l x w hf t0 t1 HC hc hl hn ⟨hX⟩ hfx ⟨(encL_right hrx).trans hE⟩ ⟨checkC_right hrx⟩ ⟨hck⟩ ⟨hel⟩ x2 ⟨hX2⟩ hq2 d ⟨hd⟩ hfd ⟨hdk⟩ ⟨hcan⟩ M m ⟨hM⟩ M2 ⟨⟨g1, g2, g3⟩⟩ p0 ((ne_of p0).trans rfl) r0 r1
      · exact back_bad_1 c n tv A cap l y w hf t0 t1 HC hc hl hn ⟨hX⟩ hq ((ne_of hq).trans rfl) ⟨hck⟩ ⟨hel⟩ x2 ⟨hX2⟩ hq2 d ⟨hd⟩ hfd ⟨hdk⟩ ⟨hcan⟩ M m ⟨hM⟩ M2 ⟨⟨g1, g2, g3⟩⟩ p0 ((ne_of p0).trans rfl) r0 r1
  · have hck : checkC c = 6 := by
      unfold checkC
      rw [rightB_false hr]
      rfl
    have hel : encL c = [] := by
      unfold encL
      rw [rightB_false hr]
      rfl
    rcases decR_back hl.out with ⟨x, hX, hfx, hrx, hE⟩ | ⟨y, hX, hq⟩
    · exact back_ok_no c n tv A cap l x w hf t0 t1 HC hc hl hn ⟨hX⟩ hfx ⟨(encL_right hrx).trans hE⟩ ⟨checkC_right hrx⟩ ⟨hck⟩ ⟨hel⟩
    · exact back_bad_no c n tv A cap l y w hf t0 t1 HC hc hl hn ⟨hX⟩ hq ((ne_of hq).trans rfl) ⟨hck⟩ ⟨hel⟩
end
section
theorem walk (v0 : Value) (n tv : Int) (a3 : Option Addr) (len3 cap3 : Nat) (z3 : List Int) (w : World) (h0 : ∃ c : Cx, v0 = .agg (vc c) ∧ Wf c) (h1 : (Lit.int .i64 n).wf = true) (h2 : (Lit.int .u32 tv).wf = true)
    (w3 : (a3 = none ∧ len3 = 0 ∧ cap3 = 0 ∧ z3 = []) ∨ ∃ x, a3 = some x ∧ len3 ≤ cap3 ∧ cap3 ≤ maxLen ∧ z3.length = cap3 ∧ (∀ i, i < z3.length → w.cell? (x.add i) = some (.int .u8 (z3.getD i 0))) ∧ ∀ n ∈ z3, (Lit.int .u8 n).wf = true) (y3 : len3 * 1 ≤ 140737488351232) :
    Calls Try.prog 10 #[v0, .int .i64 n, .int .u32 tv, .slice a3 len3 cap3] w fun e w' => e = .returned (.bool true) ∧ Below w.heap.size w w' := by
  obtain ⟨c, rfl, hf⟩ := h0
  obtain ⟨a, b⟩ := u32_bd h2
  obtain ⟨l, rfl, hr, hm, hw, hc⟩ := ReadsInt.ofRowC w3
  exact law c n tv a3 cap3 l w hf a b ⟨Kd.C_of_reads (d := (0 : Int)) (h1 := fun _ => rfl) hr⟩ hc ⟨fun x hx => u8_bd (hw x hx)⟩ (by omega)
end
end Go.Proofs.Ythoafohndinbeaa.LawBack
