/- What Set answers of a right context is right: the walk of the law. -/
import Derived.Test.YthoafohndinbeaaVcpuRightPure
import Derived.Test.YthoafohndinbeaaVcpuWorks
import Derived.Test.YthoafohndinbeaaVcpuLd2
import Derived.Deep.DeepCutAuto
import Derived.Deep.CutBlock
namespace Go.Proofs.Ythoafohndinbeaa.LawRight
open Go.RowKit Go.Proofs.Ythoafohndinbeaa.PVcpuBack Go.Proofs.YthoafohndinbeaaW.PrintWords Go.Proofs.YthoafohndinbeaaW.PrintLast Go.Proofs.YthoafohndinbeaaW.PrintMore Go.Proofs.Ythoafohndinbeaa.Aid Go.Proofs.Ythoafohndinbeaa.VcpuBase Go.Proofs.Ythoafohndinbeaa.VcpuCheck Go.Proofs.Ythoafohndinbeaa.VcpuReg Go.Proofs.Ythoafohndinbeaa.VcpuSet Go.Proofs.Ythoafohndinbeaa.VcpuEnter Go.Proofs.Ythoafohndinbeaa.VcpuEq Go.Proofs.Ythoafohndinbeaa.VcpuLd Go.Proofs.Ythoafohndinbeaa.VcpuLd2 Go.Proofs.Ythoafohndinbeaa.VcpuRightPure Go.Proofs.Ythoafohndinbeaa.VcpuWorks
theorem eqZ (d : Nat) (w : World) (c : Cx) : (Op.equalIn (d + 4) 31 (.agg (vc c)) (.agg #[Value.int IntKind.u32 0, Value.int IntKind.u32 0, Value.int IntKind.u32 0, Value.int IntKind.u32 0, Value.int IntKind.u32 0, Value.int IntKind.u32 0, Value.int IntKind.u32 0, Value.int IntKind.u32 0, Value.int IntKind.u32 0, Value.int IntKind.u32 0, Value.int IntKind.u32 0, Value.int IntKind.u32 0, Value.int IntKind.u32 0, Value.int IntKind.u32 0, Value.int IntKind.u32 0, Value.int IntKind.u32 0, Value.int IntKind.u64 0, Value.int IntKind.u64 0, Value.int IntKind.u64 0, Value.int IntKind.u64 0, Value.int IntKind.u64 0, Value.int IntKind.u64 0, Value.int IntKind.u64 0, Value.int IntKind.u64 0, Value.int IntKind.u32 0, Value.int IntKind.u32 0, Value.int IntKind.u32 0, Value.int IntKind.u32 0, Value.int IntKind.u32 0, Value.int IntKind.u32 0, Value.int IntKind.u32 0, Value.int IntKind.u32 0, Value.int IntKind.u32 0, Value.int IntKind.i64 0, Value.bool false])).run Try.prog w = .ok (cxEq c zc) w := eqCx d w c zc
attribute [local go_sem high] eqCx eqRg eqZ cxEq_self regsEq_self
set_option maxHeartbeats 1600000
set_option maxRecDepth 100000
set_option linter.unusedVariables false
section
variable (c : Cx) (n v : Int) (w : World)

theorem right_out (v0 : 0 ≤ v) (v1 : v < 4294967296) (lo : Bool) (q0 : decide (n < 0) = lo) (q1 : lo = false → decide (7 < n) = true) :
    Calls Try.prog 9 #[.agg (vc c), .int .i64 n, .int .u32 v] w fun e w' => e = .returned (.bool true) ∧ Below w.heap.size w w' := by
  have hE : Aside0 (setE n = 2) := ⟨if_pos (by cases lo <;> simp at q0 q1 <;> omega)⟩
  have hC : Aside0 (setC c n v = zc) := ⟨if_pos (by cases lo <;> simp at q0 q1 <;> omega)⟩
  cases lo with
  | true =>
    clear q1
    go_enter Try.func9, Try.ntmps9
    go_wp2_with fail
    refine (works_calls _).mono ?_
    rintro e w1 ⟨rfl, hB⟩
    have B1 := Aside0.mk ((hB.block w.heap.size (by simp)).trans (heap_alloc_new w _))
    have H1 := Aside0.mk ((below_alloc (Below.refl w.heap.size w) _).trans (hB.mono (by simp)))
    clear hB
    go_wp2_with (refine ld rfl _ rfl w.heap.size rfl c (by with_reducible exact B1.out) ?_)
    refine (set_calls c n v _ v0 v1).mono ?_
    rintro e w2 ⟨rfl, hB⟩
    have B2 := Aside0.mk (blk_below B1.out hB)
    have H2 := Aside0.mk (below_step H1.out hB)
    have l2 := blk_lt B2.out
    clear hB B1 H1
    rw [hE.out, hC.out]
    go_wp2_with (first | refine ld rfl _ rfl w2.heap.size rfl _ (by exact row_new (heap_alloc_new _ _) _) ?_ | refine st rfl _ _ rfl w2.heap.size _ rfl rfl zc (by exact heap_alloc_new _ _) ?_)
    go_ret
    exact ⟨rfl, below_row (below_alloc H2.out _) (by omega) _⟩
  | false =>
    have q2 := q1 rfl
    clear q1
    go_enter Try.func9, Try.ntmps9
    go_wp2_with fail
    refine (works_calls _).mono ?_
    rintro e w1 ⟨rfl, hB⟩
    have B1 := Aside0.mk ((hB.block w.heap.size (by simp)).trans (heap_alloc_new w _))
    have H1 := Aside0.mk ((below_alloc (Below.refl w.heap.size w) _).trans (hB.mono (by simp)))
    clear hB
    go_wp2_with (refine ld rfl _ rfl w.heap.size rfl c (by with_reducible exact B1.out) ?_)
    refine (set_calls c n v _ v0 v1).mono ?_
    rintro e w2 ⟨rfl, hB⟩
    have B2 := Aside0.mk (blk_below B1.out hB)
    have H2 := Aside0.mk (below_step H1.out hB)
    have l2 := blk_lt B2.out
    clear hB B1 H1
    rw [hE.out, hC.out]
    go_wp2_with (first | refine ld rfl _ rfl w2.heap.size rfl _ (by exact row_new (heap_alloc_new _ _) _) ?_ | refine st rfl _ _ rfl w2.heap.size _ rfl rfl zc (by exact heap_alloc_new _ _) ?_)
    go_ret
    exact ⟨rfl, below_row (below_alloc H2.out _) (by omega) _⟩

theorem right_yes (v0 : 0 ≤ v) (v1 : v < 4294967296) (HE : Aside0 (setE n = 0)) (HFD : Aside0 (Wf (setC c n v))) (HFC : Aside0 (Wf c)) (HOWN : Aside0 (∀ k : Nat, (k : Int) = n → ctlV (setC c n v) k 3 4 = putV n v)) (HSAME : Aside0 (∀ k : Nat, (k : Int) ≠ n → ctlV (setC c n v) k 3 4 = ctlV c k 3 4)) (HPUT : Aside0 ((Go.bits .andNot .u32 (putV n v) v == 0) = true)) (HAG : Aside0 (setC (setC c n v) n v = setC c n v)) (HREG : Aside0 (regsEq (setC c n v) c = true ∧ (setC c n v).ha = c.ha ∧ (setC c n v).id = c.id)) (RC : Aside0 (checkC c = 0)) (RD : Aside0 (checkC (setC c n v) = 0)) :
    Calls Try.prog 9 #[.agg (vc c), .int .i64 n, .int .u32 v] w fun e w' => e = .returned (.bool true) ∧ Below w.heap.size w w' := by
  go_enter Try.func9, Try.ntmps9
  go_wp2_with fail
  refine (works_calls _).mono ?_
  rintro e w1 ⟨rfl, hB⟩
  have B1 := Aside0.mk ((hB.block w.heap.size (by simp)).trans (heap_alloc_new w _))
  have H1 := Aside0.mk ((below_alloc (Below.refl w.heap.size w) _).trans (hB.mono (by simp)))
  clear hB
  go_wp2_with (refine ld rfl _ rfl w.heap.size rfl c (by with_reducible exact B1.out) ?_)
  refine (set_calls c n v _ v0 v1).mono ?_
  rintro e w2 ⟨rfl, hB⟩
  have B2 := Aside0.mk (blk_below B1.out hB)
  have H2 := Aside0.mk (below_step H1.out hB)
  have l2 := blk_lt B2.out
  clear hB B1 H1
  rw [HE.out]
  generalize hd : setC c n v = d at *
  clear hd
  go_upto_region 6 with (first | refine st rfl _ _ rfl w2.heap.size _ rfl rfl zc (by exact heap_alloc_new _ _) ?_)
  have B3 := Aside0.mk (row_far (blk_alloc B2.out (.cells #[Value.int IntKind.u32 0, Value.int IntKind.u32 0, Value.int IntKind.u32 0, Value.int IntKind.u32 0, Value.int IntKind.u32 0, Value.int IntKind.u32 0, Value.int IntKind.u32 0, Value.int IntKind.u32 0, Value.int IntKind.u32 0, Value.int IntKind.u32 0, Value.int IntKind.u32 0, Value.int IntKind.u32 0, Value.int IntKind.u32 0, Value.int IntKind.u32 0, Value.int IntKind.u32 0, Value.int IntKind.u32 0, Value.int IntKind.u64 0, Value.int IntKind.u64 0, Value.int IntKind.u64 0, Value.int IntKind.u64 0, Value.int IntKind.u64 0, Value.int IntKind.u64 0, Value.int IntKind.u64 0, Value.int IntKind.u64 0, Value.int IntKind.u32 0, Value.int IntKind.u32 0, Value.int IntKind.u32 0, Value.int IntKind.u32 0, Value.int IntKind.u32 0, Value.int IntKind.u32 0, Value.int IntKind.u32 0, Value.int IntKind.u32 0, Value.int IntKind.u32 0, Value.int IntKind.i64 0, Value.bool false] 31)) (vc d) (show w.heap.size ≠ w2.heap.size by omega))
  have D3 := Aside0.mk (row_new (heap_alloc_new w2 (.cells #[Value.int IntKind.u32 0, Value.int IntKind.u32 0, Value.int IntKind.u32 0, Value.int IntKind.u32 0, Value.int IntKind.u32 0, Value.int IntKind.u32 0, Value.int IntKind.u32 0, Value.int IntKind.u32 0, Value.int IntKind.u32 0, Value.int IntKind.u32 0, Value.int IntKind.u32 0, Value.int IntKind.u32 0, Value.int IntKind.u32 0, Value.int IntKind.u32 0, Value.int IntKind.u32 0, Value.int IntKind.u32 0, Value.int IntKind.u64 0, Value.int IntKind.u64 0, Value.int IntKind.u64 0, Value.int IntKind.u64 0, Value.int IntKind.u64 0, Value.int IntKind.u64 0, Value.int IntKind.u64 0, Value.int IntKind.u64 0, Value.int IntKind.u32 0, Value.int IntKind.u32 0, Value.int IntKind.u32 0, Value.int IntKind.u32 0, Value.int IntKind.u32 0, Value.int IntKind.u32 0, Value.int IntKind.u32 0, Value.int IntKind.u32 0, Value.int IntKind.u32 0, Value.int IntKind.i64 0, Value.bool false] 31)) (vc d))
  have H3 := Aside0.mk (below_row (below_alloc H2.out (.cells #[Value.int IntKind.u32 0, Value.int IntKind.u32 0, Value.int IntKind.u32 0, Value.int IntKind.u32 0, Value.int IntKind.u32 0, Value.int IntKind.u32 0, Value.int IntKind.u32 0, Value.int IntKind.u32 0, Value.int IntKind.u32 0, Value.int IntKind.u32 0, Value.int IntKind.u32 0, Value.int IntKind.u32 0, Value.int IntKind.u32 0, Value.int IntKind.u32 0, Value.int IntKind.u32 0, Value.int IntKind.u32 0, Value.int IntKind.u64 0, Value.int IntKind.u64 0, Value.int IntKind.u64 0, Value.int IntKind.u64 0, Value.int IntKind.u64 0, Value.int IntKind.u64 0, Value.int IntKind.u64 0, Value.int IntKind.u64 0, Value.int IntKind.u32 0, Value.int IntKind.u32 0, Value.int IntKind.u32 0, Value.int IntKind.u32 0, Value.int IntKind.u32 0, Value.int IntKind.u32 0, Value.int IntKind.u32 0, Value.int IntKind.u32 0, Value.int IntKind.u32 0, Value.int IntKind.i64 0, Value.bool false] 31)) (show w.heap.size ≤ w2.heap.size by omega) (vc d))
  generalize hw3 : (w2.alloc (.cells #[Value.int IntKind.u32 0, Value.int IntKind.u32 0, Value.int IntKind.u32 0, Value.int IntKind.u32 0, Value.int IntKind.u32 0, Value.int IntKind.u32 0, Value.int IntKind.u32 0, Value.int IntKind.u32 0, Value.int IntKind.u32 0, Value.int IntKind.u32 0, Value.int IntKind.u32 0, Value.int IntKind.u32 0, Value.int IntKind.u32 0, Value.int IntKind.u32 0, Value.int IntKind.u32 0, Value.int IntKind.u32 0, Value.int IntKind.u64 0, Value.int IntKind.u64 0, Value.int IntKind.u64 0, Value.int IntKind.u64 0, Value.int IntKind.u64 0, Value.int IntKind.u64 0, Value.int IntKind.u64 0, Value.int IntKind.u64 0, Value.int IntKind.u32 0, Value.int IntKind.u32 0, Value.int IntKind.u32 0, Value.int IntKind.u32 0, Value.int IntKind.u32 0, Value.int IntKind.u32 0, Value.int IntKind.u32 0, Value.int IntKind.u32 0, Value.int IntKind.u32 0, Value.int IntKind.i64 0, Value.bool false] 31)).setRow w2.heap.size (vc d) = w3 at *
  clear hw3 B2 H2
  generalize w2.heap.size = g1 at *
  have l3 := blk_lt B3.out

  go_wp2_with (first | refine ld rfl _ rfl w.heap.size rfl c (by exact B3.out) ?_)
  refine (check_calls _ HFC.out).mono ?_
  rintro e w4 ⟨rfl, hB⟩
  rw [RC.out]
  have B4 := Aside0.mk (blk_below B3.out hB)
  have D4 := Aside0.mk (blk_below D3.out hB)
  have H4 := Aside0.mk (below_step H3.out hB)
  clear hB B3 D3 H3

  go_wp2_with (first | refine ldg rfl _ rfl g1 rfl d (by exact D4.out) ?_)
  refine (check_calls _ HFD.out).mono ?_
  rintro e w5 ⟨rfl, hB⟩
  rw [RD.out]
  have BL := Aside0.mk (blk_below B4.out hB)
  have DL := Aside0.mk (blk_below D4.out hB)
  have HL := Aside0.mk (below_step H4.out hB)
  clear hB B4 D4 H4
  go_wp2_with fail
  go_loopw [9] (fun x wr => ∃ k : Nat, k ≤ 10 ∧ x = .int .i64 k ∧ Aside0 (wr.heap[w.heap.size]? = some (.cells (vc c) 31 (0, 0))) ∧ Aside0 (wr.heap[g1]? = some (.cells (vc d) 31 (0, 0))) ∧ Aside0 (Below w.heap.size w wr)) (fun x _ => 10 - (intOf x).toNat)
  case atStart => exact ⟨0, by omega, rfl, BL, DL, HL⟩
  case round =>
    clear BL DL HL
    obtain ⟨k, hk, rfl, BR, DR, HR⟩ := hrel
    by_cases hlt : k < 10
    · have k10 : decide ((k : Int) < 10) = true := decide_eq_true (by omega)
      have hEk := Aside0.mk (ctlE_in hlt)
      by_cases hkn : (k : Int) = n
      · have t0 : ((k : Int) == n) = true := by simp [hkn]
        have t1 : ((k : Int) != n) = false := by simp [hkn]
        have HY := Aside0.mk (HOWN.out k hkn)
        have z0 := HPUT.out
        have z1 : (Go.bits .andNot .u32 (putV n v) v != 0) = false := by
          rw [bne, z0]
          rfl
        clear hkn
        go_wp2_with (refine ld rfl _ rfl w.heap.size rfl c (by with_reducible exact BR.out) ?_)
        refine (control_calls c k 3 4 _).mono ?_
        rintro e wa ⟨rfl, hB⟩
        rw [hEk.out]
        have BA := Aside0.mk (blk_below BR.out hB)
        have DA := Aside0.mk (blk_below DR.out hB)
        have HA := Aside0.mk (below_step HR.out hB)
        clear hB BR DR HR
        go_wp2_with (refine ld rfl _ rfl g1 rfl d (by with_reducible exact DA.out) ?_)
        refine (control_calls d k 3 4 _).mono ?_
        rintro e wb ⟨rfl, hB⟩
        rw [hEk.out, HY.out]
        have BB := Aside0.mk (blk_below BA.out hB)
        have DB := Aside0.mk (blk_below DA.out hB)
        have HB := Aside0.mk (below_step HA.out hB)
        clear hB BA DA HA
        go_wp2_with fail
        go_roundw
        case rel => exact ⟨k + 1, by omega, by go_num, BB, DB, HB⟩
        case measure =>
          simp [intOf]
          omega
      · have t0 : ((k : Int) == n) = false := beq_eq_false_iff_ne.2 hkn
        have t1 : ((k : Int) != n) = true := by
          rw [bne, t0]
          rfl
        have HY := Aside0.mk (HSAME.out k hkn)
        clear hkn
        go_wp2_with (refine ld rfl _ rfl w.heap.size rfl c (by with_reducible exact BR.out) ?_)
        refine (control_calls c k 3 4 _).mono ?_
        rintro e wa ⟨rfl, hB⟩
        rw [hEk.out]
        have BA := Aside0.mk (blk_below BR.out hB)
        have DA := Aside0.mk (blk_below DR.out hB)
        have HA := Aside0.mk (below_step HR.out hB)
        clear hB BR DR HR
        go_wp2_with (refine ld rfl _ rfl g1 rfl d (by with_reducible exact DA.out) ?_)
        refine (control_calls d k 3 4 _).mono ?_
        rintro e wb ⟨rfl, hB⟩
        rw [hEk.out, HY.out]
        have BB := Aside0.mk (blk_below BA.out hB)
        have DB := Aside0.mk (blk_below DA.out hB)
        have HB := Aside0.mk (below_step HA.out hB)
        clear hB BA DA HA
        go_wp2_with fail
        go_roundw
        case rel => exact ⟨k + 1, by omega, by go_num, BB, DB, HB⟩
        case measure =>
          simp [intOf]
          omega
    · have k10 : decide ((k : Int) < 10) = false := decide_eq_false (by omega)
      go_wp2_with (refine ld rfl _ rfl g1 rfl d (by with_reducible exact DR.out) ?_)
      refine (set_calls d n v _ v0 v1).mono ?_
      rintro e w8 ⟨rfl, hB⟩
      rw [HE.out, HAG.out]
      have B8 := Aside0.mk (blk_below BR.out hB)
      have D8 := Aside0.mk (blk_below DR.out hB)
      have H8 := Aside0.mk (below_step HR.out hB)
      clear hB BR DR HR
      have l8 := blk_lt B8.out
      have l9 := blk_lt D8.out
      go_upto_region 16 with (first | refine st rfl _ _ rfl w8.heap.size _ rfl rfl zc (by exact heap_alloc_new _ _) ?_)
      have B9 := Aside0.mk (row_far (blk_alloc B8.out (.cells #[Value.int IntKind.u32 0, Value.int IntKind.u32 0, Value.int IntKind.u32 0, Value.int IntKind.u32 0, Value.int IntKind.u32 0, Value.int IntKind.u32 0, Value.int IntKind.u32 0, Value.int IntKind.u32 0, Value.int IntKind.u32 0, Value.int IntKind.u32 0, Value.int IntKind.u32 0, Value.int IntKind.u32 0, Value.int IntKind.u32 0, Value.int IntKind.u32 0, Value.int IntKind.u32 0, Value.int IntKind.u32 0, Value.int IntKind.u64 0, Value.int IntKind.u64 0, Value.int IntKind.u64 0, Value.int IntKind.u64 0, Value.int IntKind.u64 0, Value.int IntKind.u64 0, Value.int IntKind.u64 0, Value.int IntKind.u64 0, Value.int IntKind.u32 0, Value.int IntKind.u32 0, Value.int IntKind.u32 0, Value.int IntKind.u32 0, Value.int IntKind.u32 0, Value.int IntKind.u32 0, Value.int IntKind.u32 0, Value.int IntKind.u32 0, Value.int IntKind.u32 0, Value.int IntKind.i64 0, Value.bool false] 31)) (vc d) (show w.heap.size ≠ w8.heap.size by omega))
      have D9 := Aside0.mk (row_far (blk_alloc D8.out (.cells #[Value.int IntKind.u32 0, Value.int IntKind.u32 0, Value.int IntKind.u32 0, Value.int IntKind.u32 0, Value.int IntKind.u32 0, Value.int IntKind.u32 0, Value.int IntKind.u32 0, Value.int IntKind.u32 0, Value.int IntKind.u32 0, Value.int IntKind.u32 0, Value.int IntKind.u32 0, Value.int IntKind.u32 0, Value.int IntKind.u32 0, Value.int IntKind.u32 0, Value.int IntKind.u32 0, Value.int IntKind.u32 0, Value.int IntKind.u64 0, Value.int IntKind.u64 0, Value.int IntKind.u64 0, Value.int IntKind.u64 0, Value.int IntKind.u64 0, Value.int IntKind.u64 0, Value.int IntKind.u64 0, Value.int IntKind.u64 0, Value.int IntKind.u32 0, Value.int IntKind.u32 0, Value.int IntKind.u32 0, Value.int IntKind.u32 0, Value.int IntKind.u32 0, Value.int IntKind.u32 0, Value.int IntKind.u32 0, Value.int IntKind.u32 0, Value.int IntKind.u32 0, Value.int IntKind.i64 0, Value.bool false] 31)) (vc d) (show g1 ≠ w8.heap.size by omega))
      have E9 := Aside0.mk (row_new (heap_alloc_new w8 (.cells #[Value.int IntKind.u32 0, Value.int IntKind.u32 0, Value.int IntKind.u32 0, Value.int IntKind.u32 0, Value.int IntKind.u32 0, Value.int IntKind.u32 0, Value.int IntKind.u32 0, Value.int IntKind.u32 0, Value.int IntKind.u32 0, Value.int IntKind.u32 0, Value.int IntKind.u32 0, Value.int IntKind.u32 0, Value.int IntKind.u32 0, Value.int IntKind.u32 0, Value.int IntKind.u32 0, Value.int IntKind.u32 0, Value.int IntKind.u64 0, Value.int IntKind.u64 0, Value.int IntKind.u64 0, Value.int IntKind.u64 0, Value.int IntKind.u64 0, Value.int IntKind.u64 0, Value.int IntKind.u64 0, Value.int IntKind.u64 0, Value.int IntKind.u32 0, Value.int IntKind.u32 0, Value.int IntKind.u32 0, Value.int IntKind.u32 0, Value.int IntKind.u32 0, Value.int IntKind.u32 0, Value.int IntKind.u32 0, Value.int IntKind.u32 0, Value.int IntKind.u32 0, Value.int IntKind.i64 0, Value.bool false] 31)) (vc d))
      have H9 := Aside0.mk (below_row (below_alloc H8.out (.cells #[Value.int IntKind.u32 0, Value.int IntKind.u32 0, Value.int IntKind.u32 0, Value.int IntKind.u32 0, Value.int IntKind.u32 0, Value.int IntKind.u32 0, Value.int IntKind.u32 0, Value.int IntKind.u32 0, Value.int IntKind.u32 0, Value.int IntKind.u32 0, Value.int IntKind.u32 0, Value.int IntKind.u32 0, Value.int IntKind.u32 0, Value.int IntKind.u32 0, Value.int IntKind.u32 0, Value.int IntKind.u32 0, Value.int IntKind.u64 0, Value.int IntKind.u64 0, Value.int IntKind.u64 0, Value.int IntKind.u64 0, Value.int IntKind.u64 0, Value.int IntKind.u64 0, Value.int IntKind.u64 0, Value.int IntKind.u64 0, Value.int IntKind.u32 0, Value.int IntKind.u32 0, Value.int IntKind.u32 0, Value.int IntKind.u32 0, Value.int IntKind.u32 0, Value.int IntKind.u32 0, Value.int IntKind.u32 0, Value.int IntKind.u32 0, Value.int IntKind.u32 0, Value.int IntKind.i64 0, Value.bool false] 31)) (show w.heap.size ≤ w8.heap.size by omega) (vc d))
      generalize hw9 : (w8.alloc (.cells #[Value.int IntKind.u32 0, Value.int IntKind.u32 0, Value.int IntKind.u32 0, Value.int IntKind.u32 0, Value.int IntKind.u32 0, Value.int IntKind.u32 0, Value.int IntKind.u32 0, Value.int IntKind.u32 0, Value.int IntKind.u32 0, Value.int IntKind.u32 0, Value.int IntKind.u32 0, Value.int IntKind.u32 0, Value.int IntKind.u32 0, Value.int IntKind.u32 0, Value.int IntKind.u32 0, Value.int IntKind.u32 0, Value.int IntKind.u64 0, Value.int IntKind.u64 0, Value.int IntKind.u64 0, Value.int IntKind.u64 0, Value.int IntKind.u64 0, Value.int IntKind.u64 0, Value.int IntKind.u64 0, Value.int IntKind.u64 0, Value.int IntKind.u32 0, Value.int IntKind.u32 0, Value.int IntKind.u32 0, Value.int IntKind.u32 0, Value.int IntKind.u32 0, Value.int IntKind.u32 0, Value.int IntKind.u32 0, Value.int IntKind.u32 0, Value.int IntKind.u32 0, Value.int IntKind.i64 0, Value.bool false] 31)).setRow w8.heap.size (vc d) = w9 at *
      clear hw9 B8 D8 H8
      generalize w8.heap.size = g2 at *
      have a33 := (blk_cell B9.out 33).trans (get33 c)
      have a34 := (blk_cell B9.out 34).trans (get34 c)
      have b33 := (blk_cell D9.out 33).trans (get33 d)
      have b34 := (blk_cell D9.out 34).trans (get34 d)
      rw [HREG.out.2.1] at b33
      rw [HREG.out.2.2] at b34
      have r0 := HREG.out.1
      go_wp2_with (first | refine ldg rfl _ rfl g2 rfl d (by exact E9.out) ?_ | refine ldg rfl _ rfl g1 rfl d (by exact D9.out) ?_ | refine ldg27 rfl _ rfl g1 rfl d (by exact D9.out) ?_ | refine ldg27 rfl _ rfl w.heap.size rfl c (by exact B9.out) ?_)
      go_ret
      exact ⟨rfl, H9.out⟩

theorem right_no (v0 : 0 ≤ v) (v1 : v < 4294967296) (HE : Aside0 (setE n = 0)) (HFD : Aside0 (Wf (setC c n v))) (HFC : Aside0 (Wf c)) (HOWN : Aside0 (∀ k : Nat, (k : Int) = n → ctlV (setC c n v) k 3 4 = putV n v)) (HSAME : Aside0 (∀ k : Nat, (k : Int) ≠ n → ctlV (setC c n v) k 3 4 = ctlV c k 3 4)) (HPUT : Aside0 ((Go.bits .andNot .u32 (putV n v) v == 0) = true)) (HAG : Aside0 (setC (setC c n v) n v = setC c n v)) (HREG : Aside0 (regsEq (setC c n v) c = true ∧ (setC c n v).ha = c.ha ∧ (setC c n v).id = c.id)) (RC : Aside0 (checkC c = 6)) :
    Calls Try.prog 9 #[.agg (vc c), .int .i64 n, .int .u32 v] w fun e w' => e = .returned (.bool true) ∧ Below w.heap.size w w' := by
  go_enter Try.func9, Try.ntmps9
  go_wp2_with fail
  refine (works_calls _).mono ?_
  rintro e w1 ⟨rfl, hB⟩
  have B1 := Aside0.mk ((hB.block w.heap.size (by simp)).trans (heap_alloc_new w _))
  have H1 := Aside0.mk ((below_alloc (Below.refl w.heap.size w) _).trans (hB.mono (by simp)))
  clear hB
  go_wp2_with (refine ld rfl _ rfl w.heap.size rfl c (by with_reducible exact B1.out) ?_)
  refine (set_calls c n v _ v0 v1).mono ?_
  rintro e w2 ⟨rfl, hB⟩
  have B2 := Aside0.mk (blk_below B1.out hB)
  have H2 := Aside0.mk (below_step H1.out hB)
  have l2 := blk_lt B2.out
  clear hB B1 H1
  rw [HE.out]
  generalize hd : setC c n v = d at *
  clear hd
  go_upto_region 6 with (first | refine st rfl _ _ rfl w2.heap.size _ rfl rfl zc (by exact heap_alloc_new _ _) ?_)
  have B3 := Aside0.mk (row_far (blk_alloc B2.out (.cells #[Value.int IntKind.u32 0, Value.int IntKind.u32 0, Value.int IntKind.u32 0, Value.int IntKind.u32 0, Value.int IntKind.u32 0, Value.int IntKind.u32 0, Value.int IntKind.u32 0, Value.int IntKind.u32 0, Value.int IntKind.u32 0, Value.int IntKind.u32 0, Value.int IntKind.u32 0, Value.int IntKind.u32 0, Value.int IntKind.u32 0, Value.int IntKind.u32 0, Value.int IntKind.u32 0, Value.int IntKind.u32 0, Value.int IntKind.u64 0, Value.int IntKind.u64 0, Value.int IntKind.u64 0, Value.int IntKind.u64 0, Value.int IntKind.u64 0, Value.int IntKind.u64 0, Value.int IntKind.u64 0, Value.int IntKind.u64 0, Value.int IntKind.u32 0, Value.int IntKind.u32 0, Value.int IntKind.u32 0, Value.int IntKind.u32 0, Value.int IntKind.u32 0, Value.int IntKind.u32 0, Value.int IntKind.u32 0, Value.int IntKind.u32 0, Value.int IntKind.u32 0, Value.int IntKind.i64 0, Value.bool false] 31)) (vc d) (show w.heap.size ≠ w2.heap.size by omega))
  have D3 := Aside0.mk (row_new (heap_alloc_new w2 (.cells #[Value.int IntKind.u32 0, Value.int IntKind.u32 0, Value.int IntKind.u32 0, Value.int IntKind.u32 0, Value.int IntKind.u32 0, Value.int IntKind.u32 0, Value.int IntKind.u32 0, Value.int IntKind.u32 0, Value.int IntKind.u32 0, Value.int IntKind.u32 0, Value.int IntKind.u32 0, Value.int IntKind.u32 0, Value.int IntKind.u32 0, Value.int IntKind.u32 0, Value.int IntKind.u32 0, Value.int IntKind.u32 0, Value.int IntKind.u64 0, Value.int IntKind.u64 0, Value.int IntKind.u64 0, Value.int IntKind.u64 0, Value.int IntKind.u64 0, Value.int IntKind.u64 0, Value.int IntKind.u64 0, Value.int IntKind.u64 0, Value.int IntKind.u32 0, Value.int IntKind.u32 0, Value.int IntKind.u32 0, Value.int IntKind.u32 0, Value.int IntKind.u32 0, Value.int IntKind.u32 0, Value.int IntKind.u32 0, Value.int IntKind.u32 0, Value.int IntKind.u32 0, Value.int IntKind.i64 0, Value.bool false] 31)) (vc d))
  have H3 := Aside0.mk (below_row (below_alloc H2.out (.cells #[Value.int IntKind.u32 0, Value.int IntKind.u32 0, Value.int IntKind.u32 0, Value.int IntKind.u32 0, Value.int IntKind.u32 0, Value.int IntKind.u32 0, Value.int IntKind.u32 0, Value.int IntKind.u32 0, Value.int IntKind.u32 0, Value.int IntKind.u32 0, Value.int IntKind.u32 0, Value.int IntKind.u32 0, Value.int IntKind.u32 0, Value.int IntKind.u32 0, Value.int IntKind.u32 0, Value.int IntKind.u32 0, Value.int IntKind.u64 0, Value.int IntKind.u64 0, Value.int IntKind.u64 0, Value.int IntKind.u64 0, Value.int IntKind.u64 0, Value.int IntKind.u64 0, Value.int IntKind.u64 0, Value.int IntKind.u64 0, Value.int IntKind.u32 0, Value.int IntKind.u32 0, Value.int IntKind.u32 0, Value.int IntKind.u32 0, Value.int IntKind.u32 0, Value.int IntKind.u32 0, Value.int IntKind.u32 0, Value.int IntKind.u32 0, Value.int IntKind.u32 0, Value.int IntKind.i64 0, Value.bool false] 31)) (show w.heap.size ≤ w2.heap.size by omega) (vc d))
  generalize hw3 : (w2.alloc (.cells #[Value.int IntKind.u32 0, Value.int IntKind.u32 0, Value.int IntKind.u32 0, Value.int IntKind.u32 0, Value.int IntKind.u32 0, Value.int IntKind.u32 0, Value.int IntKind.u32 0, Value.int IntKind.u32 0, Value.int IntKind.u32 0, Value.int IntKind.u32 0, Value.int IntKind.u32 0, Value.int IntKind.u32 0, Value.int IntKind.u32 0, Value.int IntKind.u32 0, Value.int IntKind.u32 0, Value.int IntKind.u32 0, Value.int IntKind.u64 0, Value.int IntKind.u64 0, Value.int IntKind.u64 0, Value.int IntKind.u64 0, Value.int IntKind.u64 0, Value.int IntKind.u64 0, Value.int IntKind.u64 0, Value.int IntKind.u64 0, Value.int IntKind.u32 0, Value.int IntKind.u32 0, Value.int IntKind.u32 0, Value.int IntKind.u32 0, Value.int IntKind.u32 0, Value.int IntKind.u32 0, Value.int IntKind.u32 0, Value.int IntKind.u32 0, Value.int IntKind.u32 0, Value.int IntKind.i64 0, Value.bool false] 31)).setRow w2.heap.size (vc d) = w3 at *
  clear hw3 B2 H2
  generalize w2.heap.size = g1 at *
  have l3 := blk_lt B3.out

  go_wp2_with (first | refine ld rfl _ rfl w.heap.size rfl c (by exact B3.out) ?_)
  refine (check_calls _ HFC.out).mono ?_
  rintro e w4 ⟨rfl, hB⟩
  rw [RC.out]
  have B4 := Aside0.mk (blk_below B3.out hB)
  have D4 := Aside0.mk (blk_below D3.out hB)
  have H4 := Aside0.mk (below_step H3.out hB)
  clear hB B3 D3 H3

  have BL := B4
  have DL := D4
  have HL := H4
  clear B4 D4 H4
  go_wp2_with fail
  go_loopw [9] (fun x wr => ∃ k : Nat, k ≤ 10 ∧ x = .int .i64 k ∧ Aside0 (wr.heap[w.heap.size]? = some (.cells (vc c) 31 (0, 0))) ∧ Aside0 (wr.heap[g1]? = some (.cells (vc d) 31 (0, 0))) ∧ Aside0 (Below w.heap.size w wr)) (fun x _ => 10 - (intOf x).toNat)
  case atStart => exact ⟨0, by omega, rfl, BL, DL, HL⟩
  case round =>
    clear BL DL HL
    obtain ⟨k, hk, rfl, BR, DR, HR⟩ := hrel
    by_cases hlt : k < 10
    · have k10 : decide ((k : Int) < 10) = true := decide_eq_true (by omega)
      have hEk := Aside0.mk (ctlE_in hlt)
      by_cases hkn : (k : Int) = n
      · have t0 : ((k : Int) == n) = true := by simp [hkn]
        have t1 : ((k : Int) != n) = false := by simp [hkn]
        have HY := Aside0.mk (HOWN.out k hkn)
        have z0 := HPUT.out
        have z1 : (Go.bits .andNot .u32 (putV n v) v != 0) = false := by
          rw [bne, z0]
          rfl
        clear hkn
        go_wp2_with (refine ld rfl _ rfl w.heap.size rfl c (by with_reducible exact BR.out) ?_)
        refine (control_calls c k 3 4 _).mono ?_
        rintro e wa ⟨rfl, hB⟩
        rw [hEk.out]
        have BA := Aside0.mk (blk_below BR.out hB)
        have DA := Aside0.mk (blk_below DR.out hB)
        have HA := Aside0.mk (below_step HR.out hB)
        clear hB BR DR HR
        go_wp2_with (refine ld rfl _ rfl g1 rfl d (by with_reducible exact DA.out) ?_)
        refine (control_calls d k 3 4 _).mono ?_
        rintro e wb ⟨rfl, hB⟩
        rw [hEk.out, HY.out]
        have BB := Aside0.mk (blk_below BA.out hB)
        have DB := Aside0.mk (blk_below DA.out hB)
        have HB := Aside0.mk (below_step HA.out hB)
        clear hB BA DA HA
        go_wp2_with fail
        go_roundw
        case rel => exact ⟨k + 1, by omega, by go_num, BB, DB, HB⟩
        case measure =>
          simp [intOf]
          omega
      · have t0 : ((k : Int) == n) = false := beq_eq_false_iff_ne.2 hkn
        have t1 : ((k : Int) != n) = true := by
          rw [bne, t0]
          rfl
        have HY := Aside0.mk (HSAME.out k hkn)
        clear hkn
        go_wp2_with (refine ld rfl _ rfl w.heap.size rfl c (by with_reducible exact BR.out) ?_)
        refine (control_calls c k 3 4 _).mono ?_
        rintro e wa ⟨rfl, hB⟩
        rw [hEk.out]
        have BA := Aside0.mk (blk_below BR.out hB)
        have DA := Aside0.mk (blk_below DR.out hB)
        have HA := Aside0.mk (below_step HR.out hB)
        clear hB BR DR HR
        go_wp2_with (refine ld rfl _ rfl g1 rfl d (by with_reducible exact DA.out) ?_)
        refine (control_calls d k 3 4 _).mono ?_
        rintro e wb ⟨rfl, hB⟩
        rw [hEk.out, HY.out]
        have BB := Aside0.mk (blk_below BA.out hB)
        have DB := Aside0.mk (blk_below DA.out hB)
        have HB := Aside0.mk (below_step HA.out hB)
        clear hB BA DA HA
        go_wp2_with fail
        go_roundw
        case rel => exact ⟨k + 1, by omega, by go_num, BB, DB, HB⟩
        case measure =>
          simp [intOf]
          omega
    · have k10 : decide ((k : Int) < 10) = false := decide_eq_false (by omega)
      go_wp2_with (refine ld rfl _ rfl g1 rfl d (by with_reducible exact DR.out) ?_)
      refine (set_calls d n v _ v0 v1).mono ?_
      rintro e w8 ⟨rfl, hB⟩
      rw [HE.out, HAG.out]
      have B8 := Aside0.mk (blk_below BR.out hB)
      have D8 := Aside0.mk (blk_below DR.out hB)
      have H8 := Aside0.mk (below_step HR.out hB)
      clear hB BR DR HR
      have l8 := blk_lt B8.out
      have l9 := blk_lt D8.out
      go_upto_region 16 with (first | refine st rfl _ _ rfl w8.heap.size _ rfl rfl zc (by exact heap_alloc_new _ _) ?_)
      have B9 := Aside0.mk (row_far (blk_alloc B8.out (.cells #[Value.int IntKind.u32 0, Value.int IntKind.u32 0, Value.int IntKind.u32 0, Value.int IntKind.u32 0, Value.int IntKind.u32 0, Value.int IntKind.u32 0, Value.int IntKind.u32 0, Value.int IntKind.u32 0, Value.int IntKind.u32 0, Value.int IntKind.u32 0, Value.int IntKind.u32 0, Value.int IntKind.u32 0, Value.int IntKind.u32 0, Value.int IntKind.u32 0, Value.int IntKind.u32 0, Value.int IntKind.u32 0, Value.int IntKind.u64 0, Value.int IntKind.u64 0, Value.int IntKind.u64 0, Value.int IntKind.u64 0, Value.int IntKind.u64 0, Value.int IntKind.u64 0, Value.int IntKind.u64 0, Value.int IntKind.u64 0, Value.int IntKind.u32 0, Value.int IntKind.u32 0, Value.int IntKind.u32 0, Value.int IntKind.u32 0, Value.int IntKind.u32 0, Value.int IntKind.u32 0, Value.int IntKind.u32 0, Value.int IntKind.u32 0, Value.int IntKind.u32 0, Value.int IntKind.i64 0, Value.bool false] 31)) (vc d) (show w.heap.size ≠ w8.heap.size by omega))
      have D9 := Aside0.mk (row_far (blk_alloc D8.out (.cells #[Value.int IntKind.u32 0, Value.int IntKind.u32 0, Value.int IntKind.u32 0, Value.int IntKind.u32 0, Value.int IntKind.u32 0, Value.int IntKind.u32 0, Value.int IntKind.u32 0, Value.int IntKind.u32 0, Value.int IntKind.u32 0, Value.int IntKind.u32 0, Value.int IntKind.u32 0, Value.int IntKind.u32 0, Value.int IntKind.u32 0, Value.int IntKind.u32 0, Value.int IntKind.u32 0, Value.int IntKind.u32 0, Value.int IntKind.u64 0, Value.int IntKind.u64 0, Value.int IntKind.u64 0, Value.int IntKind.u64 0, Value.int IntKind.u64 0, Value.int IntKind.u64 0, Value.int IntKind.u64 0, Value.int IntKind.u64 0, Value.int IntKind.u32 0, Value.int IntKind.u32 0, Value.int IntKind.u32 0, Value.int IntKind.u32 0, Value.int IntKind.u32 0, Value.int IntKind.u32 0, Value.int IntKind.u32 0, Value.int IntKind.u32 0, Value.int IntKind.u32 0, Value.int IntKind.i64 0, Value.bool false] 31)) (vc d) (show g1 ≠ w8.heap.size by omega))
      have E9 := Aside0.mk (row_new (heap_alloc_new w8 (.cells #[Value.int IntKind.u32 0, Value.int IntKind.u32 0, Value.int IntKind.u32 0, Value.int IntKind.u32 0, Value.int IntKind.u32 0, Value.int IntKind.u32 0, Value.int IntKind.u32 0, Value.int IntKind.u32 0, Value.int IntKind.u32 0, Value.int IntKind.u32 0, Value.int IntKind.u32 0, Value.int IntKind.u32 0, Value.int IntKind.u32 0, Value.int IntKind.u32 0, Value.int IntKind.u32 0, Value.int IntKind.u32 0, Value.int IntKind.u64 0, Value.int IntKind.u64 0, Value.int IntKind.u64 0, Value.int IntKind.u64 0, Value.int IntKind.u64 0, Value.int IntKind.u64 0, Value.int IntKind.u64 0, Value.int IntKind.u64 0, Value.int IntKind.u32 0, Value.int IntKind.u32 0, Value.int IntKind.u32 0, Value.int IntKind.u32 0, Value.int IntKind.u32 0, Value.int IntKind.u32 0, Value.int IntKind.u32 0, Value.int IntKind.u32 0, Value.int IntKind.u32 0, Value.int IntKind.i64 0, Value.bool false] 31)) (vc d))
      have H9 := Aside0.mk (below_row (below_alloc H8.out (.cells #[Value.int IntKind.u32 0, Value.int IntKind.u32 0, Value.int IntKind.u32 0, Value.int IntKind.u32 0, Value.int IntKind.u32 0, Value.int IntKind.u32 0, Value.int IntKind.u32 0, Value.int IntKind.u32 0, Value.int IntKind.u32 0, Value.int IntKind.u32 0, Value.int IntKind.u32 0, Value.int IntKind.u32 0, Value.int IntKind.u32 0, Value.int IntKind.u32 0, Value.int IntKind.u32 0, Value.int IntKind.u32 0, Value.int IntKind.u64 0, Value.int IntKind.u64 0, Value.int IntKind.u64 0, Value.int IntKind.u64 0, Value.int IntKind.u64 0, Value.int IntKind.u64 0, Value.int IntKind.u64 0, Value.int IntKind.u64 0, Value.int IntKind.u32 0, Value.int IntKind.u32 0, Value.int IntKind.u32 0, Value.int IntKind.u32 0, Value.int IntKind.u32 0, Value.int IntKind.u32 0, Value.int IntKind.u32 0, Value.int IntKind.u32 0, Value.int IntKind.u32 0, Value.int IntKind.i64 0, Value.bool false] 31)) (show w.heap.size ≤ w8.heap.size by omega) (vc d))
      generalize hw9 : (w8.alloc (.cells #[Value.int IntKind.u32 0, Value.int IntKind.u32 0, Value.int IntKind.u32 0, Value.int IntKind.u32 0, Value.int IntKind.u32 0, Value.int IntKind.u32 0, Value.int IntKind.u32 0, Value.int IntKind.u32 0, Value.int IntKind.u32 0, Value.int IntKind.u32 0, Value.int IntKind.u32 0, Value.int IntKind.u32 0, Value.int IntKind.u32 0, Value.int IntKind.u32 0, Value.int IntKind.u32 0, Value.int IntKind.u32 0, Value.int IntKind.u64 0, Value.int IntKind.u64 0, Value.int IntKind.u64 0, Value.int IntKind.u64 0, Value.int IntKind.u64 0, Value.int IntKind.u64 0, Value.int IntKind.u64 0, Value.int IntKind.u64 0, Value.int IntKind.u32 0, Value.int IntKind.u32 0, Value.int IntKind.u32 0, Value.int IntKind.u32 0, Value.int IntKind.u32 0, Value.int IntKind.u32 0, Value.int IntKind.u32 0, Value.int IntKind.u32 0, Value.int IntKind.u32 0, Value.int IntKind.i64 0, Value.bool false] 31)).setRow w8.heap.size (vc d) = w9 at *
      clear hw9 B8 D8 H8
      generalize w8.heap.size = g2 at *
      have a33 := (blk_cell B9.out 33).trans (get33 c)
      have a34 := (blk_cell B9.out 34).trans (get34 c)
      have b33 := (blk_cell D9.out 33).trans (get33 d)
      have b34 := (blk_cell D9.out 34).trans (get34 d)
      rw [HREG.out.2.1] at b33
      rw [HREG.out.2.2] at b34
      have r0 := HREG.out.1
      go_wp2_with (first | refine ldg rfl _ rfl g2 rfl d (by exact E9.out) ?_ | refine ldg rfl _ rfl g1 rfl d (by exact D9.out) ?_ | refine ldg27 rfl _ rfl g1 rfl d (by exact D9.out) ?_ | refine ldg27 rfl _ rfl w.heap.size rfl c (by exact B9.out) ?_)
      go_ret
      exact ⟨rfl, H9.out⟩

theorem law (hf : Wf c) (v0 : 0 ≤ v) (v1 : v < 4294967296) : Calls Try.prog 9 #[.agg (vc c), .int .i64 n, .int .u32 v] w fun e w' => e = .returned (.bool true) ∧ Below w.heap.size w w' := by
  by_cases hn : 0 ≤ n ∧ n < 8
  · have h1 := setE_in n hn
    have h2 := wf_set hf hn v0 v1
    have h3 : ∀ k : Nat, (k : Int) = n → ctlV (setC c n v) k 3 4 = putV n v := fun k hk => ctl_own hn hk 3 4
    have h4 : ∀ k : Nat, (k : Int) ≠ n → ctlV (setC c n v) k 3 4 = ctlV c k 3 4 := fun k hk => ctl_same hn hk 3 4
    have h5 := put_within (n := n) v0 v1
    have h6 := set_again (c := c) (v := v) hn
    have h7 := set_regs (c := c) (v := v) hn
    by_cases hr : RightC c
    · refine right_yes c n v w v0 v1 ⟨h1⟩ ⟨h2⟩ ⟨hf⟩ ⟨h3⟩ ⟨h4⟩ ⟨h5⟩ ⟨h6⟩ ⟨h7⟩ ⟨?_⟩ ⟨?_⟩
      · unfold checkC
        rw [rightB_true hr]
        rfl
      · unfold checkC
        rw [rightB_true (right_set hr hn)]
        rfl
    · refine right_no c n v w v0 v1 ⟨h1⟩ ⟨h2⟩ ⟨hf⟩ ⟨h3⟩ ⟨h4⟩ ⟨h5⟩ ⟨h6⟩ ⟨h7⟩ ⟨?_⟩
      unfold checkC
      rw [rightB_false hr]
      rfl
  · exact right_out c n v w v0 v1 _ rfl (fun h => decide_eq_true (by have := of_decide_eq_false h; omega))
theorem walk (v0 : Value) (n v : Int) (w : World) (h0 : ∃ c : Cx, v0 = .agg (vc c) ∧ Wf c) (h1 : (Lit.int .i64 n).wf = true) (h2 : (Lit.int .u32 v).wf = true) :
    Calls Try.prog 9 #[v0, .int .i64 n, .int .u32 v] w fun e w' => e = .returned (.bool true) ∧ Below w.heap.size w w' := by
  obtain ⟨c, rfl, hf⟩ := h0
  obtain ⟨a, b⟩ := u32_bd h2
  exact law c n v w hf a b
end
end Go.Proofs.Ythoafohndinbeaa.LawRight
