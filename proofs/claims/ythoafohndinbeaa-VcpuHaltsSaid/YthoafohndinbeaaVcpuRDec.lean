/- A context out of bytes: what Decode of the reference comes to. -/
import Derived.Test.YthoafohndinbeaaVcpuDec
namespace Go.Proofs.Ythoafohndinbeaa.VcpuRDec
open Go.RowKit Go.Proofs.Ythoafohndinbeaa.PVcpuBack Go.Proofs.YthoafohndinbeaaW.PrintWords Go.Proofs.YthoafohndinbeaaW.PrintLast Go.Proofs.YthoafohndinbeaaW.PrintMore Go.Proofs.Ythoafohndinbeaa.Aid Go.Proofs.Ythoafohndinbeaa.VcpuBase Go.Proofs.Ythoafohndinbeaa.VcpuCheck Go.Proofs.Ythoafohndinbeaa.VcpuReg Go.Proofs.Ythoafohndinbeaa.VcpuEq Go.Proofs.Ythoafohndinbeaa.VcpuLd Go.Proofs.Ythoafohndinbeaa.VcpuLd2 Go.Proofs.Ythoafohndinbeaa.VcpuPut Go.Proofs.Ythoafohndinbeaa.VcpuEnc Go.Proofs.Ythoafohndinbeaa.VcpuREnc Go.Proofs.Ythoafohndinbeaa.VcpuDec
set_option maxHeartbeats 1600000
set_option maxRecDepth 100000
set_option linter.unusedVariables false
set_option linter.unusedSimpArgs false
theorem rat (l : List Int) (n : Nat) (A : Option Addr) (c : Nat) (w : World) (hn : l.length = n) (hr : (Kd.int .u8).C w A n l) (hc : n ≤ c) (hl : ∀ x ∈ l, 0 ≤ x ∧ x < 256) (hb : n ≤ 1000) (i : Int) (j : Nat) (hij : i = (j : Int)) (hj : j + 4 ≤ n) :
    Calls Try.prog 39 #[.slice A n c, .int .i64 i] w fun e w' => e = .returned (.int .u32 (at_ l j 4)) ∧ Below w.heap.size w w' := by
  subst hn
  subst hij
  refine PVcpuReads.bulkheadref07_at.calls 10 A c l _ _ w hr hc ?_
  unfold PVcpuReads.bulkheadref07_at.f
  have e4 : wrap64 ((j : Int) + 4) = (j : Int) + 4 := w64 (by omega) (by omega)
  rw [if_pos (by omega), e4, if_pos (by omega), if_pos (by omega), show ((j : Int) + 4).toNat = j + 4 by omega, Int.toNat_natCast, List.drop_take, show j + 4 - j = 4 by omega]
  have hh := (gets (l := (l.drop j).take 4) (fun x hx => hl x (List.mem_of_mem_drop (List.mem_of_mem_take hx))) (by simp; omega) (k := 10) (by omega)).2
  rw [hh]
  obtain ⟨v0, v1⟩ := at_bd hl j 4 hj
  have v2 : at_ l j 4 < 4294967296 := Int.lt_of_lt_of_le v1 (by decide)
  rw [List.take_take, show min 8 4 = 4 from rfl]
  show some (at_ l j 4 % 4294967296) = _
  congr 1
  omega
theorem rdec_main (l : List Int) (ab ao cap : Nat) (w : World) (hn : Aside0 (l.length = 182)) (hl : Aside0 (∀ x ∈ l, 0 ≤ x ∧ x < 256)) (hc : 182 ≤ cap) (HC : Aside0 ((Kd.int .u8).C w (some ⟨ab, ao, none⟩) 182 l)) (hmg : Aside0 (l.take 16 = letters)) (b1 : Int) (h181 : Aside0 (rd l 181 = b1)) (hne : ab < w.heap.size) (q1 : decide (1 < b1) = false) :
    Calls Try.prog 30 #[.slice (some ⟨ab, ao, none⟩) 182 cap] w fun e w' => e = .returned (.tuple #[.agg (vc (decP l)), .int .i64 (checkC (decC l))]) ∧ Below w.heap.size w w' := by
  have HD := Aside0.mk ((byte_cell HC.out 181 (by omega)).trans (show _ = some (Value.int .u8 b1) by rw [show ((181 : Nat) : Int) = 181 from rfl, h181.out]))
  have HWF := Aside0.mk (wf_dec hl.out hn.out)
  have HB0 := Aside0.mk (below_alloc (Below.refl w.heap.size w) (.cells (vc zc) 31))
  have hcv := conv_head (cap := cap) (Kd.C_below HC.out HB0.out) (by omega)
  rw [hmg.out, letters_str] at hcv
  have ez : Aside0 (vc zc = #[Value.int IntKind.u32 0, Value.int IntKind.u32 0, Value.int IntKind.u32 0, Value.int IntKind.u32 0, Value.int IntKind.u32 0, Value.int IntKind.u32 0, Value.int IntKind.u32 0, Value.int IntKind.u32 0, Value.int IntKind.u32 0, Value.int IntKind.u32 0, Value.int IntKind.u32 0, Value.int IntKind.u32 0, Value.int IntKind.u32 0, Value.int IntKind.u32 0, Value.int IntKind.u32 0, Value.int IntKind.u32 0, Value.int IntKind.u64 0, Value.int IntKind.u64 0, Value.int IntKind.u64 0, Value.int IntKind.u64 0, Value.int IntKind.u64 0, Value.int IntKind.u64 0, Value.int IntKind.u64 0, Value.int IntKind.u64 0, Value.int IntKind.u32 0, Value.int IntKind.u32 0, Value.int IntKind.u32 0, Value.int IntKind.u32 0, Value.int IntKind.u32 0, Value.int IntKind.u32 0, Value.int IntKind.u32 0, Value.int IntKind.u32 0, Value.int IntKind.u32 0, Value.int IntKind.i64 0, Value.bool false]) := ⟨rfl⟩
  rw [ez.out] at hcv
  go_enter Try.func30, Try.ntmps30
  go_upto_region 9 with fail
  clear hcv ez
  have HGa : Aside0 (((w.alloc (.cells #[Value.int IntKind.u32 0, Value.int IntKind.u32 0, Value.int IntKind.u32 0, Value.int IntKind.u32 0, Value.int IntKind.u32 0, Value.int IntKind.u32 0, Value.int IntKind.u32 0, Value.int IntKind.u32 0, Value.int IntKind.u32 0, Value.int IntKind.u32 0, Value.int IntKind.u32 0, Value.int IntKind.u32 0, Value.int IntKind.u32 0, Value.int IntKind.u32 0, Value.int IntKind.u32 0, Value.int IntKind.u32 0, Value.int IntKind.u64 0, Value.int IntKind.u64 0, Value.int IntKind.u64 0, Value.int IntKind.u64 0, Value.int IntKind.u64 0, Value.int IntKind.u64 0, Value.int IntKind.u64 0, Value.int IntKind.u64 0, Value.int IntKind.u32 0, Value.int IntKind.u32 0, Value.int IntKind.u32 0, Value.int IntKind.u32 0, Value.int IntKind.u32 0, Value.int IntKind.u32 0, Value.int IntKind.u32 0, Value.int IntKind.u32 0, Value.int IntKind.u32 0, Value.int IntKind.i64 0, Value.bool false] 31)).alloc (.cells #[Value.int IntKind.u32 0, Value.int IntKind.u32 0, Value.int IntKind.u32 0, Value.int IntKind.u32 0, Value.int IntKind.u32 0, Value.int IntKind.u32 0, Value.int IntKind.u32 0, Value.int IntKind.u32 0, Value.int IntKind.u32 0, Value.int IntKind.u32 0, Value.int IntKind.u32 0, Value.int IntKind.u32 0, Value.int IntKind.u32 0, Value.int IntKind.u32 0, Value.int IntKind.u32 0, Value.int IntKind.u32 0, Value.int IntKind.u64 0, Value.int IntKind.u64 0, Value.int IntKind.u64 0, Value.int IntKind.u64 0, Value.int IntKind.u64 0, Value.int IntKind.u64 0, Value.int IntKind.u64 0, Value.int IntKind.u64 0, Value.int IntKind.u32 0, Value.int IntKind.u32 0, Value.int IntKind.u32 0, Value.int IntKind.u32 0, Value.int IntKind.u32 0, Value.int IntKind.u32 0, Value.int IntKind.u32 0, Value.int IntKind.u32 0, Value.int IntKind.u32 0, Value.int IntKind.i64 0, Value.bool false] 31)).heap[w.heap.size + 1]? = some (.cells (vc (pC l 0 0 0)) 31 (0, 0))) := ⟨heap_alloc2_new w _ _⟩
  have HZa : Aside0 (((w.alloc (.cells #[Value.int IntKind.u32 0, Value.int IntKind.u32 0, Value.int IntKind.u32 0, Value.int IntKind.u32 0, Value.int IntKind.u32 0, Value.int IntKind.u32 0, Value.int IntKind.u32 0, Value.int IntKind.u32 0, Value.int IntKind.u32 0, Value.int IntKind.u32 0, Value.int IntKind.u32 0, Value.int IntKind.u32 0, Value.int IntKind.u32 0, Value.int IntKind.u32 0, Value.int IntKind.u32 0, Value.int IntKind.u32 0, Value.int IntKind.u64 0, Value.int IntKind.u64 0, Value.int IntKind.u64 0, Value.int IntKind.u64 0, Value.int IntKind.u64 0, Value.int IntKind.u64 0, Value.int IntKind.u64 0, Value.int IntKind.u64 0, Value.int IntKind.u32 0, Value.int IntKind.u32 0, Value.int IntKind.u32 0, Value.int IntKind.u32 0, Value.int IntKind.u32 0, Value.int IntKind.u32 0, Value.int IntKind.u32 0, Value.int IntKind.u32 0, Value.int IntKind.u32 0, Value.int IntKind.i64 0, Value.bool false] 31)).alloc (.cells #[Value.int IntKind.u32 0, Value.int IntKind.u32 0, Value.int IntKind.u32 0, Value.int IntKind.u32 0, Value.int IntKind.u32 0, Value.int IntKind.u32 0, Value.int IntKind.u32 0, Value.int IntKind.u32 0, Value.int IntKind.u32 0, Value.int IntKind.u32 0, Value.int IntKind.u32 0, Value.int IntKind.u32 0, Value.int IntKind.u32 0, Value.int IntKind.u32 0, Value.int IntKind.u32 0, Value.int IntKind.u32 0, Value.int IntKind.u64 0, Value.int IntKind.u64 0, Value.int IntKind.u64 0, Value.int IntKind.u64 0, Value.int IntKind.u64 0, Value.int IntKind.u64 0, Value.int IntKind.u64 0, Value.int IntKind.u64 0, Value.int IntKind.u32 0, Value.int IntKind.u32 0, Value.int IntKind.u32 0, Value.int IntKind.u32 0, Value.int IntKind.u32 0, Value.int IntKind.u32 0, Value.int IntKind.u32 0, Value.int IntKind.u32 0, Value.int IntKind.u32 0, Value.int IntKind.i64 0, Value.bool false] 31)).heap[w.heap.size]? = some (.cells (vc zc) 31 (0, 0))) := ⟨heap_alloc2_old w _ _⟩
  have HBa : Aside0 (Below w.heap.size w ((w.alloc (.cells #[Value.int IntKind.u32 0, Value.int IntKind.u32 0, Value.int IntKind.u32 0, Value.int IntKind.u32 0, Value.int IntKind.u32 0, Value.int IntKind.u32 0, Value.int IntKind.u32 0, Value.int IntKind.u32 0, Value.int IntKind.u32 0, Value.int IntKind.u32 0, Value.int IntKind.u32 0, Value.int IntKind.u32 0, Value.int IntKind.u32 0, Value.int IntKind.u32 0, Value.int IntKind.u32 0, Value.int IntKind.u32 0, Value.int IntKind.u64 0, Value.int IntKind.u64 0, Value.int IntKind.u64 0, Value.int IntKind.u64 0, Value.int IntKind.u64 0, Value.int IntKind.u64 0, Value.int IntKind.u64 0, Value.int IntKind.u64 0, Value.int IntKind.u32 0, Value.int IntKind.u32 0, Value.int IntKind.u32 0, Value.int IntKind.u32 0, Value.int IntKind.u32 0, Value.int IntKind.u32 0, Value.int IntKind.u32 0, Value.int IntKind.u32 0, Value.int IntKind.u32 0, Value.int IntKind.i64 0, Value.bool false] 31)).alloc (.cells #[Value.int IntKind.u32 0, Value.int IntKind.u32 0, Value.int IntKind.u32 0, Value.int IntKind.u32 0, Value.int IntKind.u32 0, Value.int IntKind.u32 0, Value.int IntKind.u32 0, Value.int IntKind.u32 0, Value.int IntKind.u32 0, Value.int IntKind.u32 0, Value.int IntKind.u32 0, Value.int IntKind.u32 0, Value.int IntKind.u32 0, Value.int IntKind.u32 0, Value.int IntKind.u32 0, Value.int IntKind.u32 0, Value.int IntKind.u64 0, Value.int IntKind.u64 0, Value.int IntKind.u64 0, Value.int IntKind.u64 0, Value.int IntKind.u64 0, Value.int IntKind.u64 0, Value.int IntKind.u64 0, Value.int IntKind.u64 0, Value.int IntKind.u32 0, Value.int IntKind.u32 0, Value.int IntKind.u32 0, Value.int IntKind.u32 0, Value.int IntKind.u32 0, Value.int IntKind.u32 0, Value.int IntKind.u32 0, Value.int IntKind.u32 0, Value.int IntKind.u32 0, Value.int IntKind.i64 0, Value.bool false] 31))) := ⟨below_alloc (below_alloc (Below.refl _ _) _) _⟩
  clear HB0
  generalize hw0 : (w.alloc (.cells #[Value.int IntKind.u32 0, Value.int IntKind.u32 0, Value.int IntKind.u32 0, Value.int IntKind.u32 0, Value.int IntKind.u32 0, Value.int IntKind.u32 0, Value.int IntKind.u32 0, Value.int IntKind.u32 0, Value.int IntKind.u32 0, Value.int IntKind.u32 0, Value.int IntKind.u32 0, Value.int IntKind.u32 0, Value.int IntKind.u32 0, Value.int IntKind.u32 0, Value.int IntKind.u32 0, Value.int IntKind.u32 0, Value.int IntKind.u64 0, Value.int IntKind.u64 0, Value.int IntKind.u64 0, Value.int IntKind.u64 0, Value.int IntKind.u64 0, Value.int IntKind.u64 0, Value.int IntKind.u64 0, Value.int IntKind.u64 0, Value.int IntKind.u32 0, Value.int IntKind.u32 0, Value.int IntKind.u32 0, Value.int IntKind.u32 0, Value.int IntKind.u32 0, Value.int IntKind.u32 0, Value.int IntKind.u32 0, Value.int IntKind.u32 0, Value.int IntKind.u32 0, Value.int IntKind.i64 0, Value.bool false] 31)).alloc (.cells #[Value.int IntKind.u32 0, Value.int IntKind.u32 0, Value.int IntKind.u32 0, Value.int IntKind.u32 0, Value.int IntKind.u32 0, Value.int IntKind.u32 0, Value.int IntKind.u32 0, Value.int IntKind.u32 0, Value.int IntKind.u32 0, Value.int IntKind.u32 0, Value.int IntKind.u32 0, Value.int IntKind.u32 0, Value.int IntKind.u32 0, Value.int IntKind.u32 0, Value.int IntKind.u32 0, Value.int IntKind.u32 0, Value.int IntKind.u64 0, Value.int IntKind.u64 0, Value.int IntKind.u64 0, Value.int IntKind.u64 0, Value.int IntKind.u64 0, Value.int IntKind.u64 0, Value.int IntKind.u64 0, Value.int IntKind.u64 0, Value.int IntKind.u32 0, Value.int IntKind.u32 0, Value.int IntKind.u32 0, Value.int IntKind.u32 0, Value.int IntKind.u32 0, Value.int IntKind.u32 0, Value.int IntKind.u32 0, Value.int IntKind.u32 0, Value.int IntKind.u32 0, Value.int IntKind.i64 0, Value.bool false] 31) = w0 at *
  clear hw0
  go_loopw [5] (fun i wr => ∃ k : Nat, k ≤ 16 ∧ i = .int .i64 k ∧ Aside0 (wr.heap[w.heap.size]? = some (.cells (vc zc) 31 (0, 0))) ∧ Aside0 (wr.heap[w.heap.size + 1]? = some (.cells (vc (pC l k 0 0)) 31 (0, 0))) ∧ Aside0 (Below w.heap.size w wr)) (fun i _ => 16 - (intOf i).toNat)
  case atStart => exact ⟨0, by omega, rfl, HZa, HGa, HBa⟩
  case round =>
    clear HZa HGa HBa
    obtain ⟨k, hk, rfl, HZ, HG, HB⟩ := hrel
    by_cases hlt : k < 16
    · have kn : decide ((k : Int) < 16) = true := decide_eq_true (by omega)
      obtain ⟨hset, hcell⟩ := pC_R l k hlt
      have HSET := Aside0.mk hset
      have HCELL := Aside0.mk hcell
      clear hset hcell
      obtain ⟨v0, v1⟩ := at_bd hl.out (16 + 4 * k) 4 (by have := hn.out; omega)
      have v2 : at_ l (16 + 4 * k) 4 < 4294967296 := Int.lt_of_lt_of_le v1 (by decide)
      clear v1
      go_wp2_with fail
      refine (rat l 182 _ cap wr hn.out (Kd.C_below HC.out HB.out) hc hl.out (by omega) _ (16 + 4 * k) (by go_num) (by omega)).mono ?_
      rintro e w2 ⟨rfl, hB⟩
      have HZ2 := Aside0.mk (blk_below HZ.out hB)
      have HG2 := Aside0.mk (blk_below HG.out hB)
      have HB2 := Aside0.mk (below_step HB.out hB)
      have hcl := (blk_cell HG2.out (k)).trans HCELL.out
      have hfr := blk_frozen HG2.out (k)
      clear hB HZ HG HB
      go_wp2_with fail
      go_roundw
      case rel => exact ⟨k + 1, by omega, by go_num, ⟨blk_far HZ2.out (p := ⟨w.heap.size + 1, k, none⟩) (by simp) _⟩, ⟨blk_put HG2.out (k) _ HSET.out⟩, ⟨below_set HB2.out (by omega)⟩⟩
      case measure =>
        simp [intOf]
        omega
    · have kn : decide ((k : Int) < 16) = false := decide_eq_false (by omega)
      obtain rfl : k = 16 := by omega
      go_wp2_with fail
      (try rw [show ((16 : Nat) : Int) = 16 from rfl])
      go_loopw [6] (fun i wr => ∃ k : Nat, k ≤ 8 ∧ i = .int .i64 k ∧ Aside0 (wr.heap[w.heap.size]? = some (.cells (vc zc) 31 (0, 0))) ∧ Aside0 (wr.heap[w.heap.size + 1]? = some (.cells (vc (pC l 16 k 0)) 31 (0, 0))) ∧ Aside0 (Below w.heap.size w wr)) (fun i _ => 8 - (intOf i).toNat)
      case atStart => exact ⟨0, by omega, rfl, HZ, HG, HB⟩
      case round =>
        clear HZ HG HB
        obtain ⟨k, hk, rfl, HZ, HG, HB⟩ := hrel
        by_cases hlt : k < 8
        · have kn : decide ((k : Int) < 8) = true := decide_eq_true (by omega)
          obtain ⟨hset, hcell⟩ := pC_F l k hlt
          have HSET := Aside0.mk hset
          have HCELL := Aside0.mk hcell
          clear hset hcell
          obtain ⟨v0, v1⟩ := at_bd hl.out (80 + 8 * k) 8 (by have := hn.out; omega)
          have v2 : at_ l (80 + 8 * k) 8 < 18446744073709551616 := Int.lt_of_lt_of_le v1 (by decide)
          clear v1
          go_wp2_with fail
          rw [show 88 + 8 * k - (80 + 8 * k) = 8 by omega]
          refine (rget_at wr ab ao cap 182 l (80 + 8 * k) 8 (Kd.C_below HC.out HB.out) hl.out (by omega) (by omega) hc).mono ?_
          rintro e w2 ⟨rfl, hB⟩
          have HZ2 := Aside0.mk (blk_below HZ.out hB)
          have HG2 := Aside0.mk (blk_below HG.out hB)
          have HB2 := Aside0.mk (below_step HB.out hB)
          have hcl := (blk_cell HG2.out (16 + k)).trans HCELL.out
          have hfr := blk_frozen HG2.out (16 + k)
          clear hB HZ HG HB
          go_wp2_with fail
          go_roundw
          case rel => exact ⟨k + 1, by omega, by go_num, ⟨blk_far HZ2.out (p := ⟨w.heap.size + 1, 16 + k, none⟩) (by simp) _⟩, ⟨blk_put HG2.out (16 + k) _ HSET.out⟩, ⟨below_set HB2.out (by omega)⟩⟩
          case measure =>
            simp [intOf]
            omega
        · have kn : decide ((k : Int) < 8) = false := decide_eq_false (by omega)
          obtain rfl : k = 8 := by omega
          have z24 := (blk_cell HG.out 24).trans (get24 _)
          have f24 := blk_frozen HG.out 24
          go_wp2_with fail
          (try rw [show ((8 : Nat) : Int) = 8 from rfl])
          refine (rat l 182 _ cap wr hn.out (Kd.C_below HC.out HB.out) hc hl.out (by omega) _ 144 (by rfl) (by omega)).mono ?_
          rintro e w3 ⟨rfl, hB⟩
          clear z24 f24
          have HZ3 := Aside0.mk (blk_below HZ.out hB)
          have HG3 := Aside0.mk (blk_below HG.out hB)
          have HB3 := Aside0.mk (below_step HB.out hB)
          clear hB HZ HG HB
          have z24 := (blk_cell HG3.out 24).trans (get24 _)
          have f24 := blk_frozen HG3.out 24
          go_upto_region 17 with fail
          clear z24 f24
          have HGx := Aside0.mk (blk_put HG3.out 24 _ (pC_W l 0 (by omega)).1)
          have HZx := Aside0.mk (blk_far HZ3.out (p := ⟨w.heap.size + 1, 24, none⟩) (by simp) (.int .u32 (at_ l 144 4)))
          have HBx := Aside0.mk (below_set HB3.out (show w.heap.size ≤ w.heap.size + 1 by omega) (j := 24) (v := .int .u32 (at_ l 144 4)))
          generalize hwx : w3.setCell ⟨w.heap.size + 1, 24, none⟩ (.int .u32 (at_ l (144 + 4 * 0) 4)) = wx at *
          clear hwx HG3 HZ3 HB3
          go_wp2_with fail
          refine (rat l 182 _ cap _ hn.out (Kd.C_below HC.out HBx.out) hc hl.out (by omega) _ 148 (by rfl) (by omega)).mono ?_
          rintro e w21 ⟨rfl, hB⟩
          have HZ1 := Aside0.mk (blk_below HZx.out hB)
          have HG1 := Aside0.mk (blk_below HGx.out hB)
          have HB1 := Aside0.mk (below_step HBx.out hB)
          clear hB HZx HGx HBx
          go_wp2_with fail
          refine (rat l 182 _ cap _ hn.out (Kd.C_below HC.out HB1.out) hc hl.out (by omega) _ 152 (by rfl) (by omega)).mono ?_
          rintro e w22 ⟨rfl, hB⟩
          have HZ2 := Aside0.mk (blk_below HZ1.out hB)
          have HG2 := Aside0.mk (blk_below HG1.out hB)
          have HB2 := Aside0.mk (below_step HB1.out hB)
          clear hB HZ1 HG1 HB1
          go_wp2_with fail
          refine (rat l 182 _ cap _ hn.out (Kd.C_below HC.out HB2.out) hc hl.out (by omega) _ 156 (by rfl) (by omega)).mono ?_
          rintro e w23 ⟨rfl, hB⟩
          have HZ3 := Aside0.mk (blk_below HZ2.out hB)
          have HG3 := Aside0.mk (blk_below HG2.out hB)
          have HB3 := Aside0.mk (below_step HB2.out hB)
          clear hB HZ2 HG2 HB2
          go_wp2_with fail
          refine (rat l 182 _ cap _ hn.out (Kd.C_below HC.out HB3.out) hc hl.out (by omega) _ 160 (by rfl) (by omega)).mono ?_
          rintro e w24 ⟨rfl, hB⟩
          have HZ4 := Aside0.mk (blk_below HZ3.out hB)
          have HG4 := Aside0.mk (blk_below HG3.out hB)
          have HB4 := Aside0.mk (below_step HB3.out hB)
          clear hB HZ3 HG3 HB3
          go_wp2_with fail
          refine (rat l 182 _ cap _ hn.out (Kd.C_below HC.out HB4.out) hc hl.out (by omega) _ 164 (by rfl) (by omega)).mono ?_
          rintro e w25 ⟨rfl, hB⟩
          have HZ5 := Aside0.mk (blk_below HZ4.out hB)
          have HG5 := Aside0.mk (blk_below HG4.out hB)
          have HB5 := Aside0.mk (below_step HB4.out hB)
          clear hB HZ4 HG4 HB4
          go_wp2_with fail
          refine (rat l 182 _ cap _ hn.out (Kd.C_below HC.out HB5.out) hc hl.out (by omega) _ 168 (by rfl) (by omega)).mono ?_
          rintro e w26 ⟨rfl, hB⟩
          have HZ6 := Aside0.mk (blk_below HZ5.out hB)
          have HG6 := Aside0.mk (blk_below HG5.out hB)
          have HB6 := Aside0.mk (below_step HB5.out hB)
          clear hB HZ5 HG5 HB5
          go_wp2_with fail
          refine (rat l 182 _ cap _ hn.out (Kd.C_below HC.out HB6.out) hc hl.out (by omega) _ 172 (by rfl) (by omega)).mono ?_
          rintro e w27 ⟨rfl, hB⟩
          have HZ7 := Aside0.mk (blk_below HZ6.out hB)
          have HG7 := Aside0.mk (blk_below HG6.out hB)
          have HB7 := Aside0.mk (below_step HB6.out hB)
          clear hB HZ6 HG6 HB6
          go_wp2_with fail
          refine (rat l 182 _ cap _ hn.out (Kd.C_below HC.out HB7.out) hc hl.out (by omega) _ 176 (by rfl) (by omega)).mono ?_
          rintro e w28 ⟨rfl, hB⟩
          have HZ8 := Aside0.mk (blk_below HZ7.out hB)
          have HG8 := Aside0.mk (blk_below HG7.out hB)
          have HB8 := Aside0.mk (below_step HB7.out hB)
          clear hB HZ7 HG7 HB7
          have z25 := (blk_cell HG8.out 25).trans (get25 _)
          have f25 := blk_frozen HG8.out 25
          have z26 := (blk_cell HG8.out 26).trans (get26 _)
          have f26 := blk_frozen HG8.out 26
          have z27 := (blk_cell HG8.out 27).trans (get27 _)
          have f27 := blk_frozen HG8.out 27
          have z28 := (blk_cell HG8.out 28).trans (get28 _)
          have f28 := blk_frozen HG8.out 28
          have z29 := (blk_cell HG8.out 29).trans (get29 _)
          have f29 := blk_frozen HG8.out 29
          have z30 := (blk_cell HG8.out 30).trans (get30 _)
          have f30 := blk_frozen HG8.out 30
          have z31 := (blk_cell HG8.out 31).trans (get31 _)
          have f31 := blk_frozen HG8.out 31
          have z32 := (blk_cell HG8.out 32).trans (get32 _)
          have f32 := blk_frozen HG8.out 32
          go_upto_region 18 with fail
          clear z25 f25 z26 f26 z27 f27 z28 f28 z29 f29 z30 f30 z31 f31 z32 f32
          have HGy : Aside0 (((((((((w28.setCell ⟨w.heap.size + 1, 25, none⟩ (.int .u32 (at_ l 148 4))).setCell ⟨w.heap.size + 1, 26, none⟩ (.int .u32 (at_ l 152 4))).setCell ⟨w.heap.size + 1, 27, none⟩ (.int .u32 (at_ l 156 4))).setCell ⟨w.heap.size + 1, 28, none⟩ (.int .u32 (at_ l 160 4))).setCell ⟨w.heap.size + 1, 29, none⟩ (.int .u32 (at_ l 164 4))).setCell ⟨w.heap.size + 1, 30, none⟩ (.int .u32 (at_ l 168 4))).setCell ⟨w.heap.size + 1, 31, none⟩ (.int .u32 (at_ l 172 4))).setCell ⟨w.heap.size + 1, 32, none⟩ (.int .u32 (at_ l 176 4))).heap[w.heap.size + 1]? = some (.cells (vc (pC l 16 8 9)) 31 (0, 0))) := ⟨(blk_put (blk_put (blk_put (blk_put (blk_put (blk_put (blk_put (blk_put HG8.out 25 _ (pC_W l 1 (by omega)).1) 26 _ (pC_W l 2 (by omega)).1) 27 _ (pC_W l 3 (by omega)).1) 28 _ (pC_W l 4 (by omega)).1) 29 _ (pC_W l 5 (by omega)).1) 30 _ (pC_W l 6 (by omega)).1) 31 _ (pC_W l 7 (by omega)).1) 32 _ (pC_W l 8 (by omega)).1)⟩
          have HZy : Aside0 (((((((((w28.setCell ⟨w.heap.size + 1, 25, none⟩ (.int .u32 (at_ l 148 4))).setCell ⟨w.heap.size + 1, 26, none⟩ (.int .u32 (at_ l 152 4))).setCell ⟨w.heap.size + 1, 27, none⟩ (.int .u32 (at_ l 156 4))).setCell ⟨w.heap.size + 1, 28, none⟩ (.int .u32 (at_ l 160 4))).setCell ⟨w.heap.size + 1, 29, none⟩ (.int .u32 (at_ l 164 4))).setCell ⟨w.heap.size + 1, 30, none⟩ (.int .u32 (at_ l 168 4))).setCell ⟨w.heap.size + 1, 31, none⟩ (.int .u32 (at_ l 172 4))).setCell ⟨w.heap.size + 1, 32, none⟩ (.int .u32 (at_ l 176 4))).heap[w.heap.size]? = some (.cells (vc zc) 31 (0, 0))) := ⟨(blk_far (blk_far (blk_far (blk_far (blk_far (blk_far (blk_far (blk_far HZ8.out (p := ⟨w.heap.size + 1, 25, none⟩) (by simp) (.int .u32 (at_ l 148 4))) (p := ⟨w.heap.size + 1, 26, none⟩) (by simp) (.int .u32 (at_ l 152 4))) (p := ⟨w.heap.size + 1, 27, none⟩) (by simp) (.int .u32 (at_ l 156 4))) (p := ⟨w.heap.size + 1, 28, none⟩) (by simp) (.int .u32 (at_ l 160 4))) (p := ⟨w.heap.size + 1, 29, none⟩) (by simp) (.int .u32 (at_ l 164 4))) (p := ⟨w.heap.size + 1, 30, none⟩) (by simp) (.int .u32 (at_ l 168 4))) (p := ⟨w.heap.size + 1, 31, none⟩) (by simp) (.int .u32 (at_ l 172 4))) (p := ⟨w.heap.size + 1, 32, none⟩) (by simp) (.int .u32 (at_ l 176 4)))⟩
          have HBy : Aside0 (Below w.heap.size w ((((((((w28.setCell ⟨w.heap.size + 1, 25, none⟩ (.int .u32 (at_ l 148 4))).setCell ⟨w.heap.size + 1, 26, none⟩ (.int .u32 (at_ l 152 4))).setCell ⟨w.heap.size + 1, 27, none⟩ (.int .u32 (at_ l 156 4))).setCell ⟨w.heap.size + 1, 28, none⟩ (.int .u32 (at_ l 160 4))).setCell ⟨w.heap.size + 1, 29, none⟩ (.int .u32 (at_ l 164 4))).setCell ⟨w.heap.size + 1, 30, none⟩ (.int .u32 (at_ l 168 4))).setCell ⟨w.heap.size + 1, 31, none⟩ (.int .u32 (at_ l 172 4))).setCell ⟨w.heap.size + 1, 32, none⟩ (.int .u32 (at_ l 176 4)))) := ⟨(below_set (below_set (below_set (below_set (below_set (below_set (below_set (below_set HB8.out (show w.heap.size ≤ w.heap.size + 1 by omega) (j := 25) (v := .int .u32 (at_ l 148 4))) (show w.heap.size ≤ w.heap.size + 1 by omega) (j := 26) (v := .int .u32 (at_ l 152 4))) (show w.heap.size ≤ w.heap.size + 1 by omega) (j := 27) (v := .int .u32 (at_ l 156 4))) (show w.heap.size ≤ w.heap.size + 1 by omega) (j := 28) (v := .int .u32 (at_ l 160 4))) (show w.heap.size ≤ w.heap.size + 1 by omega) (j := 29) (v := .int .u32 (at_ l 164 4))) (show w.heap.size ≤ w.heap.size + 1 by omega) (j := 30) (v := .int .u32 (at_ l 168 4))) (show w.heap.size ≤ w.heap.size + 1 by omega) (j := 31) (v := .int .u32 (at_ l 172 4))) (show w.heap.size ≤ w.heap.size + 1 by omega) (j := 32) (v := .int .u32 (at_ l 176 4)))⟩
          generalize hwy : ((((((((w28.setCell ⟨w.heap.size + 1, 25, none⟩ (.int .u32 (at_ l 148 4))).setCell ⟨w.heap.size + 1, 26, none⟩ (.int .u32 (at_ l 152 4))).setCell ⟨w.heap.size + 1, 27, none⟩ (.int .u32 (at_ l 156 4))).setCell ⟨w.heap.size + 1, 28, none⟩ (.int .u32 (at_ l 160 4))).setCell ⟨w.heap.size + 1, 29, none⟩ (.int .u32 (at_ l 164 4))).setCell ⟨w.heap.size + 1, 30, none⟩ (.int .u32 (at_ l 168 4))).setCell ⟨w.heap.size + 1, 31, none⟩ (.int .u32 (at_ l 172 4))).setCell ⟨w.heap.size + 1, 32, none⟩ (.int .u32 (at_ l 176 4))) = wy at *
          clear hwy HG8 HZ8 HB8
          have a33 := (blk_cell HGy.out 33).trans (get33 _)
          have a34 := (blk_cell HGy.out 34).trans (get34 _)
          have f33 := blk_frozen HGy.out 33
          have f34 := blk_frozen HGy.out 34
          have HC1 := Aside0.mk (Kd.C_below HC.out HBy.out)
          have d0 : wy.cell? ⟨ab, ao + 180, none⟩ = some (.int .u8 (rd l 180)) := byte_cell HC1.out 180 (by omega)
          have d1 : wy.cell? ⟨ab, ao + 181, none⟩ = some (.int .u8 b1) := by
            have h := byte_cell HC1.out 181 (by omega)
            rwa [show ((181 : Nat) : Int) = 181 from rfl, h181.out] at h
          obtain ⟨y0, y1⟩ := hl.out (rd l 180) (rd_mem l 180 (by have := hn.out; omega))
          have ne1 : ab ≠ w.heap.size + 1 := by omega
          go_upto_region 20 with fail
          have HGf : Aside0 (((wy.setCell ⟨w.heap.size + 1, 33, none⟩ (.int .i64 (rd l 180))).setCell ⟨w.heap.size + 1, 34, none⟩ (.bool (b1 == 1))).heap[w.heap.size + 1]? = some (.cells (vc (decC l)) 31 (0, 0))) := ⟨by
            rw [← h181.out]
            exact blk_put (blk_put HGy.out 33 _ (set33 _ (rd l 180))) 34 _ (set34 _ (rd l 181 == 1))⟩
          have HZf := Aside0.mk (blk_far (blk_far HZy.out (p := ⟨w.heap.size + 1, 33, none⟩) (by simp) (.int .i64 (rd l 180))) (p := ⟨w.heap.size + 1, 34, none⟩) (by simp) (.bool (b1 == 1)))
          have HBf := Aside0.mk (below_set (below_set HBy.out (show w.heap.size ≤ w.heap.size + 1 by omega) (j := 33) (v := .int .i64 (rd l 180))) (show w.heap.size ≤ w.heap.size + 1 by omega) (j := 34) (v := .bool (b1 == 1)))
          have d1f : ((wy.setCell ⟨w.heap.size + 1, 33, none⟩ (.int .i64 (rd l 180))).setCell ⟨w.heap.size + 1, 34, none⟩ (.bool (b1 == 1))).cell? ⟨ab, ao + 181, none⟩ = some (.int .u8 b1) := by
            have h := byte_cell (Kd.C_below HC.out HBf.out) 181 (by omega)
            rwa [show ((181 : Nat) : Int) = 181 from rfl, h181.out] at h
          generalize hwf : (wy.setCell ⟨w.heap.size + 1, 33, none⟩ (.int .i64 (rd l 180))).setCell ⟨w.heap.size + 1, 34, none⟩ (.bool (b1 == 1)) = wf at *
          clear hwf HGy HZy HBy d0 d1 a33 a34 f33 f34 HC1
          go_wp2_with (first | refine ldg rfl _ rfl (w.heap.size + 1) rfl (decC l) (by exact HGf.out) ?_)
          refine (rcheck_calls _ HWF.out).mono ?_
          rintro e wz ⟨rfl, hB⟩
          have HGz := Aside0.mk (blk_below HGf.out hB)
          have HZz := Aside0.mk (blk_below HZf.out hB)
          have HBz := Aside0.mk (below_step HBf.out hB)
          clear hB HGf HZf HBf d1f
          cases hr : rightB (decC l) with
          | true =>
            have e2 : checkC (decC l) = 0 := if_pos hr
            have E1 : Aside0 (decP l = decC l) := ⟨if_pos hr⟩
            have E2 := Aside0.mk e2
            clear hr
            rw [e2]
            clear e2
            go_wp2_with (first | refine ld rfl _ rfl (w.heap.size + 1) rfl (decC l) (by exact HGz.out) ?_ | refine st rfl _ _ rfl w.heap.size _ rfl rfl zc (by exact HZz.out) ?_)
            refine bodyPost_ret (results_ct rfl _ _ w.heap.size 31 (vc (decC l)) (0, 0) _ rfl (row_new HZz.out _) Try.underlying31 rfl (by kernel_rfl)) rfl ?_
            rw [E1.out, E2.out]
            exact ⟨rfl, below_row HBz.out (Nat.le_refl _) _⟩
          | false =>
            have e2 : checkC (decC l) = 6 := if_neg (by simp [hr])
            have E1 : Aside0 (decP l = zc) := ⟨if_neg (by simp [hr])⟩
            have E2 := Aside0.mk e2
            clear hr
            rw [e2]
            clear e2
            go_wp2_with (first | refine st rfl _ _ rfl w.heap.size zc rfl rfl zc (by exact HZz.out) ?_)
            refine bodyPost_ret (results_ct rfl _ _ w.heap.size 31 (vc zc) (0, 0) _ rfl (row_new HZz.out _) Try.underlying31 rfl (by kernel_rfl)) rfl ?_
            rw [E1.out, E2.out]
            exact ⟨rfl, below_row HBz.out (Nat.le_refl _) _⟩
theorem rdec_bit (l : List Int) (ab ao cap : Nat) (w : World) (hn : Aside0 (l.length = 182)) (hl : Aside0 (∀ x ∈ l, 0 ≤ x ∧ x < 256)) (hc : 182 ≤ cap) (HC : Aside0 ((Kd.int .u8).C w (some ⟨ab, ao, none⟩) 182 l)) (hmg : Aside0 (l.take 16 = letters)) (b1 : Int) (h181 : Aside0 (rd l 181 = b1)) (hne : ab < w.heap.size) (q1 : decide (1 < b1) = true) :
    Calls Try.prog 30 #[.slice (some ⟨ab, ao, none⟩) 182 cap] w fun e w' => e = .returned (.tuple #[.agg (vc zc), .int .i64 6]) ∧ Below w.heap.size w w' := by
  have HD := Aside0.mk ((byte_cell HC.out 181 (by omega)).trans (show _ = some (Value.int .u8 b1) by rw [show ((181 : Nat) : Int) = 181 from rfl, h181.out]))
  have HWF := Aside0.mk (wf_dec hl.out hn.out)
  have HB0 := Aside0.mk (below_alloc (Below.refl w.heap.size w) (.cells (vc zc) 31))
  have hcv := conv_head (cap := cap) (Kd.C_below HC.out HB0.out) (by omega)
  rw [hmg.out, letters_str] at hcv
  have ez : Aside0 (vc zc = #[Value.int IntKind.u32 0, Value.int IntKind.u32 0, Value.int IntKind.u32 0, Value.int IntKind.u32 0, Value.int IntKind.u32 0, Value.int IntKind.u32 0, Value.int IntKind.u32 0, Value.int IntKind.u32 0, Value.int IntKind.u32 0, Value.int IntKind.u32 0, Value.int IntKind.u32 0, Value.int IntKind.u32 0, Value.int IntKind.u32 0, Value.int IntKind.u32 0, Value.int IntKind.u32 0, Value.int IntKind.u32 0, Value.int IntKind.u64 0, Value.int IntKind.u64 0, Value.int IntKind.u64 0, Value.int IntKind.u64 0, Value.int IntKind.u64 0, Value.int IntKind.u64 0, Value.int IntKind.u64 0, Value.int IntKind.u64 0, Value.int IntKind.u32 0, Value.int IntKind.u32 0, Value.int IntKind.u32 0, Value.int IntKind.u32 0, Value.int IntKind.u32 0, Value.int IntKind.u32 0, Value.int IntKind.u32 0, Value.int IntKind.u32 0, Value.int IntKind.u32 0, Value.int IntKind.i64 0, Value.bool false]) := ⟨rfl⟩
  rw [ez.out] at hcv
  go_enter Try.func30, Try.ntmps30
  go_upto_region 9 with fail
  clear hcv ez
  have HGa : Aside0 (((w.alloc (.cells #[Value.int IntKind.u32 0, Value.int IntKind.u32 0, Value.int IntKind.u32 0, Value.int IntKind.u32 0, Value.int IntKind.u32 0, Value.int IntKind.u32 0, Value.int IntKind.u32 0, Value.int IntKind.u32 0, Value.int IntKind.u32 0, Value.int IntKind.u32 0, Value.int IntKind.u32 0, Value.int IntKind.u32 0, Value.int IntKind.u32 0, Value.int IntKind.u32 0, Value.int IntKind.u32 0, Value.int IntKind.u32 0, Value.int IntKind.u64 0, Value.int IntKind.u64 0, Value.int IntKind.u64 0, Value.int IntKind.u64 0, Value.int IntKind.u64 0, Value.int IntKind.u64 0, Value.int IntKind.u64 0, Value.int IntKind.u64 0, Value.int IntKind.u32 0, Value.int IntKind.u32 0, Value.int IntKind.u32 0, Value.int IntKind.u32 0, Value.int IntKind.u32 0, Value.int IntKind.u32 0, Value.int IntKind.u32 0, Value.int IntKind.u32 0, Value.int IntKind.u32 0, Value.int IntKind.i64 0, Value.bool false] 31)).alloc (.cells #[Value.int IntKind.u32 0, Value.int IntKind.u32 0, Value.int IntKind.u32 0, Value.int IntKind.u32 0, Value.int IntKind.u32 0, Value.int IntKind.u32 0, Value.int IntKind.u32 0, Value.int IntKind.u32 0, Value.int IntKind.u32 0, Value.int IntKind.u32 0, Value.int IntKind.u32 0, Value.int IntKind.u32 0, Value.int IntKind.u32 0, Value.int IntKind.u32 0, Value.int IntKind.u32 0, Value.int IntKind.u32 0, Value.int IntKind.u64 0, Value.int IntKind.u64 0, Value.int IntKind.u64 0, Value.int IntKind.u64 0, Value.int IntKind.u64 0, Value.int IntKind.u64 0, Value.int IntKind.u64 0, Value.int IntKind.u64 0, Value.int IntKind.u32 0, Value.int IntKind.u32 0, Value.int IntKind.u32 0, Value.int IntKind.u32 0, Value.int IntKind.u32 0, Value.int IntKind.u32 0, Value.int IntKind.u32 0, Value.int IntKind.u32 0, Value.int IntKind.u32 0, Value.int IntKind.i64 0, Value.bool false] 31)).heap[w.heap.size + 1]? = some (.cells (vc (pC l 0 0 0)) 31 (0, 0))) := ⟨heap_alloc2_new w _ _⟩
  have HZa : Aside0 (((w.alloc (.cells #[Value.int IntKind.u32 0, Value.int IntKind.u32 0, Value.int IntKind.u32 0, Value.int IntKind.u32 0, Value.int IntKind.u32 0, Value.int IntKind.u32 0, Value.int IntKind.u32 0, Value.int IntKind.u32 0, Value.int IntKind.u32 0, Value.int IntKind.u32 0, Value.int IntKind.u32 0, Value.int IntKind.u32 0, Value.int IntKind.u32 0, Value.int IntKind.u32 0, Value.int IntKind.u32 0, Value.int IntKind.u32 0, Value.int IntKind.u64 0, Value.int IntKind.u64 0, Value.int IntKind.u64 0, Value.int IntKind.u64 0, Value.int IntKind.u64 0, Value.int IntKind.u64 0, Value.int IntKind.u64 0, Value.int IntKind.u64 0, Value.int IntKind.u32 0, Value.int IntKind.u32 0, Value.int IntKind.u32 0, Value.int IntKind.u32 0, Value.int IntKind.u32 0, Value.int IntKind.u32 0, Value.int IntKind.u32 0, Value.int IntKind.u32 0, Value.int IntKind.u32 0, Value.int IntKind.i64 0, Value.bool false] 31)).alloc (.cells #[Value.int IntKind.u32 0, Value.int IntKind.u32 0, Value.int IntKind.u32 0, Value.int IntKind.u32 0, Value.int IntKind.u32 0, Value.int IntKind.u32 0, Value.int IntKind.u32 0, Value.int IntKind.u32 0, Value.int IntKind.u32 0, Value.int IntKind.u32 0, Value.int IntKind.u32 0, Value.int IntKind.u32 0, Value.int IntKind.u32 0, Value.int IntKind.u32 0, Value.int IntKind.u32 0, Value.int IntKind.u32 0, Value.int IntKind.u64 0, Value.int IntKind.u64 0, Value.int IntKind.u64 0, Value.int IntKind.u64 0, Value.int IntKind.u64 0, Value.int IntKind.u64 0, Value.int IntKind.u64 0, Value.int IntKind.u64 0, Value.int IntKind.u32 0, Value.int IntKind.u32 0, Value.int IntKind.u32 0, Value.int IntKind.u32 0, Value.int IntKind.u32 0, Value.int IntKind.u32 0, Value.int IntKind.u32 0, Value.int IntKind.u32 0, Value.int IntKind.u32 0, Value.int IntKind.i64 0, Value.bool false] 31)).heap[w.heap.size]? = some (.cells (vc zc) 31 (0, 0))) := ⟨heap_alloc2_old w _ _⟩
  have HBa : Aside0 (Below w.heap.size w ((w.alloc (.cells #[Value.int IntKind.u32 0, Value.int IntKind.u32 0, Value.int IntKind.u32 0, Value.int IntKind.u32 0, Value.int IntKind.u32 0, Value.int IntKind.u32 0, Value.int IntKind.u32 0, Value.int IntKind.u32 0, Value.int IntKind.u32 0, Value.int IntKind.u32 0, Value.int IntKind.u32 0, Value.int IntKind.u32 0, Value.int IntKind.u32 0, Value.int IntKind.u32 0, Value.int IntKind.u32 0, Value.int IntKind.u32 0, Value.int IntKind.u64 0, Value.int IntKind.u64 0, Value.int IntKind.u64 0, Value.int IntKind.u64 0, Value.int IntKind.u64 0, Value.int IntKind.u64 0, Value.int IntKind.u64 0, Value.int IntKind.u64 0, Value.int IntKind.u32 0, Value.int IntKind.u32 0, Value.int IntKind.u32 0, Value.int IntKind.u32 0, Value.int IntKind.u32 0, Value.int IntKind.u32 0, Value.int IntKind.u32 0, Value.int IntKind.u32 0, Value.int IntKind.u32 0, Value.int IntKind.i64 0, Value.bool false] 31)).alloc (.cells #[Value.int IntKind.u32 0, Value.int IntKind.u32 0, Value.int IntKind.u32 0, Value.int IntKind.u32 0, Value.int IntKind.u32 0, Value.int IntKind.u32 0, Value.int IntKind.u32 0, Value.int IntKind.u32 0, Value.int IntKind.u32 0, Value.int IntKind.u32 0, Value.int IntKind.u32 0, Value.int IntKind.u32 0, Value.int IntKind.u32 0, Value.int IntKind.u32 0, Value.int IntKind.u32 0, Value.int IntKind.u32 0, Value.int IntKind.u64 0, Value.int IntKind.u64 0, Value.int IntKind.u64 0, Value.int IntKind.u64 0, Value.int IntKind.u64 0, Value.int IntKind.u64 0, Value.int IntKind.u64 0, Value.int IntKind.u64 0, Value.int IntKind.u32 0, Value.int IntKind.u32 0, Value.int IntKind.u32 0, Value.int IntKind.u32 0, Value.int IntKind.u32 0, Value.int IntKind.u32 0, Value.int IntKind.u32 0, Value.int IntKind.u32 0, Value.int IntKind.u32 0, Value.int IntKind.i64 0, Value.bool false] 31))) := ⟨below_alloc (below_alloc (Below.refl _ _) _) _⟩
  clear HB0
  generalize hw0 : (w.alloc (.cells #[Value.int IntKind.u32 0, Value.int IntKind.u32 0, Value.int IntKind.u32 0, Value.int IntKind.u32 0, Value.int IntKind.u32 0, Value.int IntKind.u32 0, Value.int IntKind.u32 0, Value.int IntKind.u32 0, Value.int IntKind.u32 0, Value.int IntKind.u32 0, Value.int IntKind.u32 0, Value.int IntKind.u32 0, Value.int IntKind.u32 0, Value.int IntKind.u32 0, Value.int IntKind.u32 0, Value.int IntKind.u32 0, Value.int IntKind.u64 0, Value.int IntKind.u64 0, Value.int IntKind.u64 0, Value.int IntKind.u64 0, Value.int IntKind.u64 0, Value.int IntKind.u64 0, Value.int IntKind.u64 0, Value.int IntKind.u64 0, Value.int IntKind.u32 0, Value.int IntKind.u32 0, Value.int IntKind.u32 0, Value.int IntKind.u32 0, Value.int IntKind.u32 0, Value.int IntKind.u32 0, Value.int IntKind.u32 0, Value.int IntKind.u32 0, Value.int IntKind.u32 0, Value.int IntKind.i64 0, Value.bool false] 31)).alloc (.cells #[Value.int IntKind.u32 0, Value.int IntKind.u32 0, Value.int IntKind.u32 0, Value.int IntKind.u32 0, Value.int IntKind.u32 0, Value.int IntKind.u32 0, Value.int IntKind.u32 0, Value.int IntKind.u32 0, Value.int IntKind.u32 0, Value.int IntKind.u32 0, Value.int IntKind.u32 0, Value.int IntKind.u32 0, Value.int IntKind.u32 0, Value.int IntKind.u32 0, Value.int IntKind.u32 0, Value.int IntKind.u32 0, Value.int IntKind.u64 0, Value.int IntKind.u64 0, Value.int IntKind.u64 0, Value.int IntKind.u64 0, Value.int IntKind.u64 0, Value.int IntKind.u64 0, Value.int IntKind.u64 0, Value.int IntKind.u64 0, Value.int IntKind.u32 0, Value.int IntKind.u32 0, Value.int IntKind.u32 0, Value.int IntKind.u32 0, Value.int IntKind.u32 0, Value.int IntKind.u32 0, Value.int IntKind.u32 0, Value.int IntKind.u32 0, Value.int IntKind.u32 0, Value.int IntKind.i64 0, Value.bool false] 31) = w0 at *
  clear hw0
  go_loopw [5] (fun i wr => ∃ k : Nat, k ≤ 16 ∧ i = .int .i64 k ∧ Aside0 (wr.heap[w.heap.size]? = some (.cells (vc zc) 31 (0, 0))) ∧ Aside0 (wr.heap[w.heap.size + 1]? = some (.cells (vc (pC l k 0 0)) 31 (0, 0))) ∧ Aside0 (Below w.heap.size w wr)) (fun i _ => 16 - (intOf i).toNat)
  case atStart => exact ⟨0, by omega, rfl, HZa, HGa, HBa⟩
  case round =>
    clear HZa HGa HBa
    obtain ⟨k, hk, rfl, HZ, HG, HB⟩ := hrel
    by_cases hlt : k < 16
    · have kn : decide ((k : Int) < 16) = true := decide_eq_true (by omega)
      obtain ⟨hset, hcell⟩ := pC_R l k hlt
      have HSET := Aside0.mk hset
      have HCELL := Aside0.mk hcell
      clear hset hcell
      obtain ⟨v0, v1⟩ := at_bd hl.out (16 + 4 * k) 4 (by have := hn.out; omega)
      have v2 : at_ l (16 + 4 * k) 4 < 4294967296 := Int.lt_of_lt_of_le v1 (by decide)
      clear v1
      go_wp2_with fail
      refine (rat l 182 _ cap wr hn.out (Kd.C_below HC.out HB.out) hc hl.out (by omega) _ (16 + 4 * k) (by go_num) (by omega)).mono ?_
      rintro e w2 ⟨rfl, hB⟩
      have HZ2 := Aside0.mk (blk_below HZ.out hB)
      have HG2 := Aside0.mk (blk_below HG.out hB)
      have HB2 := Aside0.mk (below_step HB.out hB)
      have hcl := (blk_cell HG2.out (k)).trans HCELL.out
      have hfr := blk_frozen HG2.out (k)
      clear hB HZ HG HB
      go_wp2_with fail
      go_roundw
      case rel => exact ⟨k + 1, by omega, by go_num, ⟨blk_far HZ2.out (p := ⟨w.heap.size + 1, k, none⟩) (by simp) _⟩, ⟨blk_put HG2.out (k) _ HSET.out⟩, ⟨below_set HB2.out (by omega)⟩⟩
      case measure =>
        simp [intOf]
        omega
    · have kn : decide ((k : Int) < 16) = false := decide_eq_false (by omega)
      obtain rfl : k = 16 := by omega
      go_wp2_with fail
      (try rw [show ((16 : Nat) : Int) = 16 from rfl])
      go_loopw [6] (fun i wr => ∃ k : Nat, k ≤ 8 ∧ i = .int .i64 k ∧ Aside0 (wr.heap[w.heap.size]? = some (.cells (vc zc) 31 (0, 0))) ∧ Aside0 (wr.heap[w.heap.size + 1]? = some (.cells (vc (pC l 16 k 0)) 31 (0, 0))) ∧ Aside0 (Below w.heap.size w wr)) (fun i _ => 8 - (intOf i).toNat)
      case atStart => exact ⟨0, by omega, rfl, HZ, HG, HB⟩
      case round =>
        clear HZ HG HB
        obtain ⟨k, hk, rfl, HZ, HG, HB⟩ := hrel
        by_cases hlt : k < 8
        · have kn : decide ((k : Int) < 8) = true := decide_eq_true (by omega)
          obtain ⟨hset, hcell⟩ := pC_F l k hlt
          have HSET := Aside0.mk hset
          have HCELL := Aside0.mk hcell
          clear hset hcell
          obtain ⟨v0, v1⟩ := at_bd hl.out (80 + 8 * k) 8 (by have := hn.out; omega)
          have v2 : at_ l (80 + 8 * k) 8 < 18446744073709551616 := Int.lt_of_lt_of_le v1 (by decide)
          clear v1
          go_wp2_with fail
          rw [show 88 + 8 * k - (80 + 8 * k) = 8 by omega]
          refine (rget_at wr ab ao cap 182 l (80 + 8 * k) 8 (Kd.C_below HC.out HB.out) hl.out (by omega) (by omega) hc).mono ?_
          rintro e w2 ⟨rfl, hB⟩
          have HZ2 := Aside0.mk (blk_below HZ.out hB)
          have HG2 := Aside0.mk (blk_below HG.out hB)
          have HB2 := Aside0.mk (below_step HB.out hB)
          have hcl := (blk_cell HG2.out (16 + k)).trans HCELL.out
          have hfr := blk_frozen HG2.out (16 + k)
          clear hB HZ HG HB
          go_wp2_with fail
          go_roundw
          case rel => exact ⟨k + 1, by omega, by go_num, ⟨blk_far HZ2.out (p := ⟨w.heap.size + 1, 16 + k, none⟩) (by simp) _⟩, ⟨blk_put HG2.out (16 + k) _ HSET.out⟩, ⟨below_set HB2.out (by omega)⟩⟩
          case measure =>
            simp [intOf]
            omega
        · have kn : decide ((k : Int) < 8) = false := decide_eq_false (by omega)
          obtain rfl : k = 8 := by omega
          have z24 := (blk_cell HG.out 24).trans (get24 _)
          have f24 := blk_frozen HG.out 24
          go_wp2_with fail
          (try rw [show ((8 : Nat) : Int) = 8 from rfl])
          refine (rat l 182 _ cap wr hn.out (Kd.C_below HC.out HB.out) hc hl.out (by omega) _ 144 (by rfl) (by omega)).mono ?_
          rintro e w3 ⟨rfl, hB⟩
          clear z24 f24
          have HZ3 := Aside0.mk (blk_below HZ.out hB)
          have HG3 := Aside0.mk (blk_below HG.out hB)
          have HB3 := Aside0.mk (below_step HB.out hB)
          clear hB HZ HG HB
          have z24 := (blk_cell HG3.out 24).trans (get24 _)
          have f24 := blk_frozen HG3.out 24
          go_upto_region 17 with fail
          clear z24 f24
          have HGx := Aside0.mk (blk_put HG3.out 24 _ (pC_W l 0 (by omega)).1)
          have HZx := Aside0.mk (blk_far HZ3.out (p := ⟨w.heap.size + 1, 24, none⟩) (by simp) (.int .u32 (at_ l 144 4)))
          have HBx := Aside0.mk (below_set HB3.out (show w.heap.size ≤ w.heap.size + 1 by omega) (j := 24) (v := .int .u32 (at_ l 144 4)))
          generalize hwx : w3.setCell ⟨w.heap.size + 1, 24, none⟩ (.int .u32 (at_ l (144 + 4 * 0) 4)) = wx at *
          clear hwx HG3 HZ3 HB3
          go_wp2_with fail
          refine (rat l 182 _ cap _ hn.out (Kd.C_below HC.out HBx.out) hc hl.out (by omega) _ 148 (by rfl) (by omega)).mono ?_
          rintro e w21 ⟨rfl, hB⟩
          have HZ1 := Aside0.mk (blk_below HZx.out hB)
          have HG1 := Aside0.mk (blk_below HGx.out hB)
          have HB1 := Aside0.mk (below_step HBx.out hB)
          clear hB HZx HGx HBx
          go_wp2_with fail
          refine (rat l 182 _ cap _ hn.out (Kd.C_below HC.out HB1.out) hc hl.out (by omega) _ 152 (by rfl) (by omega)).mono ?_
          rintro e w22 ⟨rfl, hB⟩
          have HZ2 := Aside0.mk (blk_below HZ1.out hB)
          have HG2 := Aside0.mk (blk_below HG1.out hB)
          have HB2 := Aside0.mk (below_step HB1.out hB)
          clear hB HZ1 HG1 HB1
          go_wp2_with fail
          refine (rat l 182 _ cap _ hn.out (Kd.C_below HC.out HB2.out) hc hl.out (by omega) _ 156 (by rfl) (by omega)).mono ?_
          rintro e w23 ⟨rfl, hB⟩
          have HZ3 := Aside0.mk (blk_below HZ2.out hB)
          have HG3 := Aside0.mk (blk_below HG2.out hB)
          have HB3 := Aside0.mk (below_step HB2.out hB)
          clear hB HZ2 HG2 HB2
          go_wp2_with fail
          refine (rat l 182 _ cap _ hn.out (Kd.C_below HC.out HB3.out) hc hl.out (by omega) _ 160 (by rfl) (by omega)).mono ?_
          rintro e w24 ⟨rfl, hB⟩
          have HZ4 := Aside0.mk (blk_below HZ3.out hB)
          have HG4 := Aside0.mk (blk_below HG3.out hB)
          have HB4 := Aside0.mk (below_step HB3.out hB)
          clear hB HZ3 HG3 HB3
          go_wp2_with fail
          refine (rat l 182 _ cap _ hn.out (Kd.C_below HC.out HB4.out) hc hl.out (by omega) _ 164 (by rfl) (by omega)).mono ?_
          rintro e w25 ⟨rfl, hB⟩
          have HZ5 := Aside0.mk (blk_below HZ4.out hB)
          have HG5 := Aside0.mk (blk_below HG4.out hB)
          have HB5 := Aside0.mk (below_step HB4.out hB)
          clear hB HZ4 HG4 HB4
          go_wp2_with fail
          refine (rat l 182 _ cap _ hn.out (Kd.C_below HC.out HB5.out) hc hl.out (by omega) _ 168 (by rfl) (by omega)).mono ?_
          rintro e w26 ⟨rfl, hB⟩
          have HZ6 := Aside0.mk (blk_below HZ5.out hB)
          have HG6 := Aside0.mk (blk_below HG5.out hB)
          have HB6 := Aside0.mk (below_step HB5.out hB)
          clear hB HZ5 HG5 HB5
          go_wp2_with fail
          refine (rat l 182 _ cap _ hn.out (Kd.C_below HC.out HB6.out) hc hl.out (by omega) _ 172 (by rfl) (by omega)).mono ?_
          rintro e w27 ⟨rfl, hB⟩
          have HZ7 := Aside0.mk (blk_below HZ6.out hB)
          have HG7 := Aside0.mk (blk_below HG6.out hB)
          have HB7 := Aside0.mk (below_step HB6.out hB)
          clear hB HZ6 HG6 HB6
          go_wp2_with fail
          refine (rat l 182 _ cap _ hn.out (Kd.C_below HC.out HB7.out) hc hl.out (by omega) _ 176 (by rfl) (by omega)).mono ?_
          rintro e w28 ⟨rfl, hB⟩
          have HZ8 := Aside0.mk (blk_below HZ7.out hB)
          have HG8 := Aside0.mk (blk_below HG7.out hB)
          have HB8 := Aside0.mk (below_step HB7.out hB)
          clear hB HZ7 HG7 HB7
          have z25 := (blk_cell HG8.out 25).trans (get25 _)
          have f25 := blk_frozen HG8.out 25
          have z26 := (blk_cell HG8.out 26).trans (get26 _)
          have f26 := blk_frozen HG8.out 26
          have z27 := (blk_cell HG8.out 27).trans (get27 _)
          have f27 := blk_frozen HG8.out 27
          have z28 := (blk_cell HG8.out 28).trans (get28 _)
          have f28 := blk_frozen HG8.out 28
          have z29 := (blk_cell HG8.out 29).trans (get29 _)
          have f29 := blk_frozen HG8.out 29
          have z30 := (blk_cell HG8.out 30).trans (get30 _)
          have f30 := blk_frozen HG8.out 30
          have z31 := (blk_cell HG8.out 31).trans (get31 _)
          have f31 := blk_frozen HG8.out 31
          have z32 := (blk_cell HG8.out 32).trans (get32 _)
          have f32 := blk_frozen HG8.out 32
          go_upto_region 18 with fail
          clear z25 f25 z26 f26 z27 f27 z28 f28 z29 f29 z30 f30 z31 f31 z32 f32
          have HGy : Aside0 (((((((((w28.setCell ⟨w.heap.size + 1, 25, none⟩ (.int .u32 (at_ l 148 4))).setCell ⟨w.heap.size + 1, 26, none⟩ (.int .u32 (at_ l 152 4))).setCell ⟨w.heap.size + 1, 27, none⟩ (.int .u32 (at_ l 156 4))).setCell ⟨w.heap.size + 1, 28, none⟩ (.int .u32 (at_ l 160 4))).setCell ⟨w.heap.size + 1, 29, none⟩ (.int .u32 (at_ l 164 4))).setCell ⟨w.heap.size + 1, 30, none⟩ (.int .u32 (at_ l 168 4))).setCell ⟨w.heap.size + 1, 31, none⟩ (.int .u32 (at_ l 172 4))).setCell ⟨w.heap.size + 1, 32, none⟩ (.int .u32 (at_ l 176 4))).heap[w.heap.size + 1]? = some (.cells (vc (pC l 16 8 9)) 31 (0, 0))) := ⟨(blk_put (blk_put (blk_put (blk_put (blk_put (blk_put (blk_put (blk_put HG8.out 25 _ (pC_W l 1 (by omega)).1) 26 _ (pC_W l 2 (by omega)).1) 27 _ (pC_W l 3 (by omega)).1) 28 _ (pC_W l 4 (by omega)).1) 29 _ (pC_W l 5 (by omega)).1) 30 _ (pC_W l 6 (by omega)).1) 31 _ (pC_W l 7 (by omega)).1) 32 _ (pC_W l 8 (by omega)).1)⟩
          have HZy : Aside0 (((((((((w28.setCell ⟨w.heap.size + 1, 25, none⟩ (.int .u32 (at_ l 148 4))).setCell ⟨w.heap.size + 1, 26, none⟩ (.int .u32 (at_ l 152 4))).setCell ⟨w.heap.size + 1, 27, none⟩ (.int .u32 (at_ l 156 4))).setCell ⟨w.heap.size + 1, 28, none⟩ (.int .u32 (at_ l 160 4))).setCell ⟨w.heap.size + 1, 29, none⟩ (.int .u32 (at_ l 164 4))).setCell ⟨w.heap.size + 1, 30, none⟩ (.int .u32 (at_ l 168 4))).setCell ⟨w.heap.size + 1, 31, none⟩ (.int .u32 (at_ l 172 4))).setCell ⟨w.heap.size + 1, 32, none⟩ (.int .u32 (at_ l 176 4))).heap[w.heap.size]? = some (.cells (vc zc) 31 (0, 0))) := ⟨(blk_far (blk_far (blk_far (blk_far (blk_far (blk_far (blk_far (blk_far HZ8.out (p := ⟨w.heap.size + 1, 25, none⟩) (by simp) (.int .u32 (at_ l 148 4))) (p := ⟨w.heap.size + 1, 26, none⟩) (by simp) (.int .u32 (at_ l 152 4))) (p := ⟨w.heap.size + 1, 27, none⟩) (by simp) (.int .u32 (at_ l 156 4))) (p := ⟨w.heap.size + 1, 28, none⟩) (by simp) (.int .u32 (at_ l 160 4))) (p := ⟨w.heap.size + 1, 29, none⟩) (by simp) (.int .u32 (at_ l 164 4))) (p := ⟨w.heap.size + 1, 30, none⟩) (by simp) (.int .u32 (at_ l 168 4))) (p := ⟨w.heap.size + 1, 31, none⟩) (by simp) (.int .u32 (at_ l 172 4))) (p := ⟨w.heap.size + 1, 32, none⟩) (by simp) (.int .u32 (at_ l 176 4)))⟩
          have HBy : Aside0 (Below w.heap.size w ((((((((w28.setCell ⟨w.heap.size + 1, 25, none⟩ (.int .u32 (at_ l 148 4))).setCell ⟨w.heap.size + 1, 26, none⟩ (.int .u32 (at_ l 152 4))).setCell ⟨w.heap.size + 1, 27, none⟩ (.int .u32 (at_ l 156 4))).setCell ⟨w.heap.size + 1, 28, none⟩ (.int .u32 (at_ l 160 4))).setCell ⟨w.heap.size + 1, 29, none⟩ (.int .u32 (at_ l 164 4))).setCell ⟨w.heap.size + 1, 30, none⟩ (.int .u32 (at_ l 168 4))).setCell ⟨w.heap.size + 1, 31, none⟩ (.int .u32 (at_ l 172 4))).setCell ⟨w.heap.size + 1, 32, none⟩ (.int .u32 (at_ l 176 4)))) := ⟨(below_set (below_set (below_set (below_set (below_set (below_set (below_set (below_set HB8.out (show w.heap.size ≤ w.heap.size + 1 by omega) (j := 25) (v := .int .u32 (at_ l 148 4))) (show w.heap.size ≤ w.heap.size + 1 by omega) (j := 26) (v := .int .u32 (at_ l 152 4))) (show w.heap.size ≤ w.heap.size + 1 by omega) (j := 27) (v := .int .u32 (at_ l 156 4))) (show w.heap.size ≤ w.heap.size + 1 by omega) (j := 28) (v := .int .u32 (at_ l 160 4))) (show w.heap.size ≤ w.heap.size + 1 by omega) (j := 29) (v := .int .u32 (at_ l 164 4))) (show w.heap.size ≤ w.heap.size + 1 by omega) (j := 30) (v := .int .u32 (at_ l 168 4))) (show w.heap.size ≤ w.heap.size + 1 by omega) (j := 31) (v := .int .u32 (at_ l 172 4))) (show w.heap.size ≤ w.heap.size + 1 by omega) (j := 32) (v := .int .u32 (at_ l 176 4)))⟩
          generalize hwy : ((((((((w28.setCell ⟨w.heap.size + 1, 25, none⟩ (.int .u32 (at_ l 148 4))).setCell ⟨w.heap.size + 1, 26, none⟩ (.int .u32 (at_ l 152 4))).setCell ⟨w.heap.size + 1, 27, none⟩ (.int .u32 (at_ l 156 4))).setCell ⟨w.heap.size + 1, 28, none⟩ (.int .u32 (at_ l 160 4))).setCell ⟨w.heap.size + 1, 29, none⟩ (.int .u32 (at_ l 164 4))).setCell ⟨w.heap.size + 1, 30, none⟩ (.int .u32 (at_ l 168 4))).setCell ⟨w.heap.size + 1, 31, none⟩ (.int .u32 (at_ l 172 4))).setCell ⟨w.heap.size + 1, 32, none⟩ (.int .u32 (at_ l 176 4))) = wy at *
          clear hwy HG8 HZ8 HB8
          have a33 := (blk_cell HGy.out 33).trans (get33 _)
          have a34 := (blk_cell HGy.out 34).trans (get34 _)
          have f33 := blk_frozen HGy.out 33
          have f34 := blk_frozen HGy.out 34
          have HC1 := Aside0.mk (Kd.C_below HC.out HBy.out)
          have d0 : wy.cell? ⟨ab, ao + 180, none⟩ = some (.int .u8 (rd l 180)) := byte_cell HC1.out 180 (by omega)
          have d1 : wy.cell? ⟨ab, ao + 181, none⟩ = some (.int .u8 b1) := by
            have h := byte_cell HC1.out 181 (by omega)
            rwa [show ((181 : Nat) : Int) = 181 from rfl, h181.out] at h
          obtain ⟨y0, y1⟩ := hl.out (rd l 180) (rd_mem l 180 (by have := hn.out; omega))
          have ne1 : ab ≠ w.heap.size + 1 := by omega
          go_upto_region 20 with fail
          have HGf : Aside0 (((wy.setCell ⟨w.heap.size + 1, 33, none⟩ (.int .i64 (rd l 180))).setCell ⟨w.heap.size + 1, 34, none⟩ (.bool (b1 == 1))).heap[w.heap.size + 1]? = some (.cells (vc (decC l)) 31 (0, 0))) := ⟨by
            rw [← h181.out]
            exact blk_put (blk_put HGy.out 33 _ (set33 _ (rd l 180))) 34 _ (set34 _ (rd l 181 == 1))⟩
          have HZf := Aside0.mk (blk_far (blk_far HZy.out (p := ⟨w.heap.size + 1, 33, none⟩) (by simp) (.int .i64 (rd l 180))) (p := ⟨w.heap.size + 1, 34, none⟩) (by simp) (.bool (b1 == 1)))
          have HBf := Aside0.mk (below_set (below_set HBy.out (show w.heap.size ≤ w.heap.size + 1 by omega) (j := 33) (v := .int .i64 (rd l 180))) (show w.heap.size ≤ w.heap.size + 1 by omega) (j := 34) (v := .bool (b1 == 1)))
          have d1f : ((wy.setCell ⟨w.heap.size + 1, 33, none⟩ (.int .i64 (rd l 180))).setCell ⟨w.heap.size + 1, 34, none⟩ (.bool (b1 == 1))).cell? ⟨ab, ao + 181, none⟩ = some (.int .u8 b1) := by
            have h := byte_cell (Kd.C_below HC.out HBf.out) 181 (by omega)
            rwa [show ((181 : Nat) : Int) = 181 from rfl, h181.out] at h
          generalize hwf : (wy.setCell ⟨w.heap.size + 1, 33, none⟩ (.int .i64 (rd l 180))).setCell ⟨w.heap.size + 1, 34, none⟩ (.bool (b1 == 1)) = wf at *
          clear hwf HGy HZy HBy d0 d1 a33 a34 f33 f34 HC1
          go_wp2_with (first | refine st rfl _ _ rfl w.heap.size zc rfl rfl zc (by exact HZf.out) ?_)
          refine bodyPost_ret (results_ct rfl _ _ w.heap.size 31 (vc zc) (0, 0) _ rfl (row_new HZf.out _) Try.underlying31 rfl (by kernel_rfl)) rfl ?_
          exact ⟨rfl, below_row HBf.out (Nat.le_refl _) _⟩
theorem rdec_short (A : Option Addr) (n cap : Nat) (w : World) (h : decide ((n : Int) < 182) = true) (hn : n ≤ 140737488351232) : Calls Try.prog 30 #[.slice A n cap] w fun e w' => e = .returned (.tuple #[.agg (vc zc), .int .i64 1]) ∧ Below w.heap.size w w' := by
  go_enter Try.func30, Try.ntmps30
  go_wp2_with (first | refine st rfl _ _ rfl w.heap.size zc rfl rfl zc (by exact heap_alloc_new _ _) ?_)
  refine bodyPost_ret (results_ct rfl _ _ w.heap.size 31 (vc zc) (0, 0) _ rfl (row_new (heap_alloc_new _ _) _) Try.underlying31 rfl (by kernel_rfl)) rfl ?_
  exact ⟨rfl, below_row (below_alloc (Below.refl _ _) _) (Nat.le_refl _) _⟩
theorem rdec_long (A : Option Addr) (n cap : Nat) (w : World) (h : decide ((n : Int) < 182) = false) (h2 : decide (182 < (n : Int)) = true) (hn : n ≤ 140737488351232) : Calls Try.prog 30 #[.slice A n cap] w fun e w' => e = .returned (.tuple #[.agg (vc zc), .int .i64 7]) ∧ Below w.heap.size w w' := by
  go_enter Try.func30, Try.ntmps30
  go_wp2_with (first | refine st rfl _ _ rfl w.heap.size zc rfl rfl zc (by exact heap_alloc_new _ _) ?_)
  refine bodyPost_ret (results_ct rfl _ _ w.heap.size 31 (vc zc) (0, 0) _ rfl (row_new (heap_alloc_new _ _) _) Try.underlying31 rfl (by kernel_rfl)) rfl ?_
  exact ⟨rfl, below_row (below_alloc (Below.refl _ _) _) (Nat.le_refl _) _⟩
theorem rdec_magic (l : List Int) (X : ByteArray) (ab ao cap : Nat) (w : World) (hn : Aside0 (l.length = 182)) (hc : 182 ≤ cap) (HC : Aside0 ((Kd.int .u8).C w (some ⟨ab, ao, none⟩) 182 l)) (hX : Aside0 (strOfNums (l.take 16) = X)) (q : (X.toList == [66, 85, 76, 75, 72, 69, 65, 68, 45, 67, 79, 78, 84, 69, 88, 84]) = false) :
    Calls Try.prog 30 #[.slice (some ⟨ab, ao, none⟩) 182 cap] w fun e w' => e = .returned (.tuple #[.agg (vc zc), .int .i64 130]) ∧ Below w.heap.size w w' := by
  have HB0 := Aside0.mk (below_alloc (Below.refl w.heap.size w) (.cells (vc zc) 31))
  have hcv := conv_head (cap := cap) (Kd.C_below HC.out HB0.out) (by omega)
  rw [hX.out] at hcv
  have ez : Aside0 (vc zc = #[Value.int IntKind.u32 0, Value.int IntKind.u32 0, Value.int IntKind.u32 0, Value.int IntKind.u32 0, Value.int IntKind.u32 0, Value.int IntKind.u32 0, Value.int IntKind.u32 0, Value.int IntKind.u32 0, Value.int IntKind.u32 0, Value.int IntKind.u32 0, Value.int IntKind.u32 0, Value.int IntKind.u32 0, Value.int IntKind.u32 0, Value.int IntKind.u32 0, Value.int IntKind.u32 0, Value.int IntKind.u32 0, Value.int IntKind.u64 0, Value.int IntKind.u64 0, Value.int IntKind.u64 0, Value.int IntKind.u64 0, Value.int IntKind.u64 0, Value.int IntKind.u64 0, Value.int IntKind.u64 0, Value.int IntKind.u64 0, Value.int IntKind.u32 0, Value.int IntKind.u32 0, Value.int IntKind.u32 0, Value.int IntKind.u32 0, Value.int IntKind.u32 0, Value.int IntKind.u32 0, Value.int IntKind.u32 0, Value.int IntKind.u32 0, Value.int IntKind.u32 0, Value.int IntKind.i64 0, Value.bool false]) := ⟨rfl⟩
  rw [ez.out] at hcv
  go_enter Try.func30, Try.ntmps30
  go_wp2_with (first | refine st rfl _ _ rfl w.heap.size zc rfl rfl zc (by exact heap_alloc_new _ _) ?_)
  refine bodyPost_ret (results_ct rfl _ _ w.heap.size 31 (vc zc) (0, 0) _ rfl (row_new (heap_alloc_new _ _) _) Try.underlying31 rfl (by kernel_rfl)) rfl ?_
  exact ⟨rfl, below_row (below_alloc (Below.refl _ _) _) (Nat.le_refl _) _⟩
end Go.Proofs.Ythoafohndinbeaa.VcpuRDec
