/- load: Frames. -/
import Derived.Test.YtiinflgoflkomaaLoadFr
namespace Go.Proofs.Ytiinflgoflkomaa.LoadFrames
open Go.RowKit Go.Proofs.Ytiinflgoflkomaa.PLoadChecks Go.Proofs.YtiinflgoflkomaaW.PrintWords Go.Proofs.YtiinflgoflkomaaW.PrintLast Go.Proofs.YtiinflgoflkomaaW.PrintMore Go.Proofs.Ytiinflgoflkomaa.Aid Go.Proofs.Ytiinflgoflkomaa.LoadF Go.Proofs.Ytiinflgoflkomaa.LoadSame2 Go.Proofs.Ytiinflgoflkomaa.LoadEnc Go.Proofs.Ytiinflgoflkomaa.LoadPure Go.Proofs.Ytiinflgoflkomaa.LoadPg
set_option linter.unusedVariables false
set_option linter.unusedSimpArgs false
open Go.Proofs.Ytiinflgoflkomaa.LoadFr
set_option maxHeartbeats 1600000 in
set_option maxRecDepth 100000 in
theorem frames_calls (A : Option Addr) (c : Nat) (a : Int) (l : List S45) (w : World) (hr : Kd.C k45 w A l.length l) (hc : l.length ≤ c) (hl : Sz l) (ha : 0 ≤ a ∧ a < 4294967296) :
    Calls Try.prog 14 #[.agg #[.int .u32 a, .slice A l.length c]] w fun e w' => e = .returned (.int .i64 (framesL a l)) ∧ Below w.heap.size w w' := by
  have HR := Aside0.mk hr
  have HC := Aside0.mk hc
  have HL := Aside0.mk hl
  have HA := Aside0.mk ha
  have HB := Aside0.mk (Below.refl w.heap.size w)
  obtain ⟨r, hr0⟩ : ∃ r, r = imgL a l := ⟨_, rfl⟩
  have HF := Aside0.mk ((Check_f (k := 20) ha.1 hl (Nat.le_refl _)).trans (congrArg some hr0.symm))
  obtain ⟨y, hy⟩ : ∃ y, y = pagesL a l := ⟨_, rfl⟩
  have HYL : Aside0 (y.length ≤ 1024 ∧ ∀ p ∈ y, 0 ≤ p.f0 ∧ p.f0 < 8192) := ⟨by rw [hy]; exact ⟨pagesL_length, pages_ge⟩⟩
  obtain ⟨N, hN⟩ : ∃ N, N = framesL a l := ⟨_, rfl⟩
  have HN : Aside0 (N = if r = 0 then fr (-1) 1 y else 0) := ⟨by rw [hN, hr0, hy]; rfl⟩
  have HY := Aside0.mk hy
  rw [← hN]
  clear hr hc hl ha hr0 hy hN
  go_enter Try.func14, Try.ntmps14
  go_wp2_with (first | ((with_reducible refine gate_dst (N := 1) rfl ?_); refine box_event ?hg (N := 1) ?hd (cs := #[.int .u32 a, .slice A l.length c]) (t := 25) ?hr ?_; (case hd => rfl); (case hg => rfl); (case hr => first | (go_simp; done) | (go_simp; rfl)); intro g1 hg w1 hbox hb; have BK1 := Aside0.mk hbox; have HB := Aside0.mk (below_step HB.out hb); clear hg hbox hb; have c10 : w1.cell? ⟨g1, 0, none⟩ = some (.int .u32 a) := (blk_cell BK1.out 0).trans rfl; have c11 : w1.cell? ⟨g1, 1, none⟩ = some (.slice A l.length c) := (blk_cell BK1.out 1).trans rfl))
  refine (load_Check.calls 20 a A c l r _ (Kd.C_below HR.out HB.out) HC.out HF.out).mono ?_
  rintro e w2 ⟨rfl, hb⟩
  have BK1 := Aside0.mk (blk_below BK1.out hb)
  have HB := Aside0.mk (below_step HB.out hb)
  clear hb c10 c11
  have c10 : w2.cell? ⟨g1, 0, none⟩ = some (.int .u32 a) := (blk_cell BK1.out 0).trans rfl
  have c11 : w2.cell? ⟨g1, 1, none⟩ = some (.slice A l.length c) := (blk_cell BK1.out 1).trans rfl
  by_cases h0 : r = 0
  · have e0 : (r != 0) = false := by simp [h0]
    have HE := Aside0.mk (HN.out.trans (if_pos h0))
    clear HN h0
    go_wp2_with fail
    refine (LoadPages.pages_calls A c a l _ (Kd.C_below HR.out HB.out) HC.out HL.out HA.out).mono ?_
    rintro e w3 ⟨v, rfl, hs, hb⟩
    rw [← HY.out] at hs
    obtain ⟨A9, c9, rfl, hc9, hr9⟩ := Kd.S_reads hs
    have R9 := Aside0.mk hr9
    have HB := Aside0.mk (below_step HB.out hb)
    clear hs hc9 hr9 hb c10 c11 BK1
    have HB3 : Aside0 (Below w3.heap.size w3 w3) := ⟨Below.refl _ _⟩
    go_wp2_with fail
    go_loopg [3, 4, 13] y.length (fun k v3 v4 v13 w' => ∃ (i : Nat) (n last : Int), v3 = .int .i64 n ∧ v4 = .int .i64 last ∧ v13 = .int .i64 (i : Int) ∧ Aside0 (i ≤ y.length ∧ k = y.length - i) ∧ Aside0 (fr last n (y.drop i) = N ∧ 0 ≤ n ∧ n ≤ 1 + 2 * (i : Int)) ∧ Aside0 (Below w.heap.size w w') ∧ Aside0 (Below w3.heap.size w3 w'))
    case atStart => exact ⟨0, 1, -1, rfl, rfl, rfl, ⟨Nat.zero_le _, rfl⟩, ⟨by rw [HE.out]; rfl, by decide, by decide⟩, HB, HB3⟩
    case round =>
     clear HB HB3
     obtain ⟨i, n, last, rfl, rfl, rfl, HI, HX, HBr, HB3r⟩ := hrel
     have hi0 := HI.out.1
     by_cases ci : i < y.length
     · have e1 : decide ((i : Int) < (y.length : Int)) = true := decide_eq_true (by omega)
       have p0 : 0 ≤ (i : Int) := by omega
       have q0 : (i : Int) < (y.length : Int) := by omega
       have hm := HYL.out.2 _ (rdp_mem ci)
       have hyl := HYL.out.1
       have hn := HX.out.2
       have HD : Aside0 (y.drop i = rd_T46 y (i : Int) :: y.drop (i + 1)) := ⟨rdp_drop ci⟩
       obtain ⟨ad, A2, c2, rfl, x0, x1, x2, l2, g2r⟩ := at_T46 (Kd.C_below R9.out HB3r.out) i p0 q0
       rw [Int.toNat_natCast] at x0 x1 x2
       generalize rd_T46 y (i : Int) = s at *
       obtain ⟨pg, pm, b⟩ := s
       simp only at x0 x1 x2 l2 g2r hm
       clear l2 g2r
       have z1 : wrap64 (n + 1) = n + 1 := w64 (by omega) (by omega)
       have z2 : wrap64 (n + 1 + 1) = n + 1 + 1 := w64 (by omega) (by omega)
       have z3 : wrap64 (Int.tdiv pg 64) = Int.tdiv pg 64 := by rw [Int.tdiv_eq_ediv_of_nonneg hm.1, w64 (by omega) (by omega)]
       have z4 : wrap64 ((i : Int) + 1) = ((i + 1 : Nat) : Int) := by rw [w64 (by omega) (by omega)]; omega
       have Z := Aside0.mk (And.intro z1 (And.intro z2 (And.intro z3 z4)))
       have HM := Aside0.mk hm
       have CI := Aside0.mk ci
       by_cases cq : Int.tdiv pg 64 = last
       · have e2 : (Int.tdiv pg 64 != last) = false := by simp [cq]
         have CQ := Aside0.mk cq
         clear cq ci hi0 hm hyl hn
         go_wp2_with (first | ((with_reducible refine gate_dst (N := 6) rfl ?_); refine box_event ?hg (N := 6) ?hd (cs := #[.int .i64 0, .int .i64 0, .slice none 0 0]) (t := 46) ?hr ?_; (case hd => rfl); (case hg => rfl); (case hr => first | (go_simp; done) | (go_simp; rfl)); intro g6 hg wa hbox hb; have GE6 := Aside0.mk (show w.heap.size ≤ g6 by rw [hg]; exact HBr.out.size); have BK6 := Aside0.mk hbox; have HB := Aside0.mk (below_step HBr.out hb); have GE3 := Aside0.mk (show w3.heap.size ≤ g6 by rw [hg]; exact HB3r.out.size); have HB3 := Aside0.mk (below_step HB3r.out hb); clear hg hbox hb x0 x1 x2; have a0 : wa.cell? ⟨g6, 0, none⟩ = some (.int .i64 0) := (blk_cell BK6.out 0).trans rfl; have a1 : wa.cell? ⟨g6, 1, none⟩ = some (.int .i64 0) := (blk_cell BK6.out 1).trans rfl; have a2 : wa.cell? ⟨g6, 2, none⟩ = some (.slice none 0 0) := (blk_cell BK6.out 2).trans rfl; have f0 := blk_frozen BK6.out 0; have f1 := blk_frozen BK6.out 1; have f2 := blk_frozen BK6.out 2) | ((with_reducible refine gate_store (t := 46) (p := 6) (v := .tmp 16) rfl ?_); refine store_event (t := 46) (p := 6) (v := .tmp 16) (w1 := (((wa.setCell ⟨g6, 0, none⟩ (.int .i64 pg)).setCell ⟨g6, 1, none⟩ (.int .i64 pm)).setCell ⟨g6, 2, none⟩ (.slice A2 b.length c2))) rfl rfl rfl ?hr ?_; (case hr => first | (go_simp; done) | (go_simp; rfl)); intro wb hw; have q8 := blk_put BK6.out 0 (.int .i64 pg) rfl; have q9 := blk_put q8 1 (.int .i64 pm) rfl; have HB : Aside0 (Below w.heap.size w wb) := ⟨(by rw [hw]; exact below_set (below_set (below_set HB.out GE6.out) GE6.out) GE6.out)⟩; have HB3 : Aside0 (Below w3.heap.size w3 wb) := ⟨(by rw [hw]; exact below_set (below_set (below_set HB3.out GE3.out) GE3.out) GE3.out)⟩; have BK6 : Aside0 (wb.heap[g6]? = some (.cells #[.int .i64 pg, .int .i64 pm, .slice A2 b.length c2] 46 (0, 0))) := ⟨(by rw [hw]; exact blk_put q9 2 _ rfl)⟩; clear hw q8 q9 a0 a1 a2 f0 f1 f2; have c60 : wb.cell? ⟨g6, 0, none⟩ = some (.int .i64 pg) := (blk_cell BK6.out 0).trans rfl))
         go_roundg (y.length - (i + 1))
         case measure => (have := CI.out; have := HI.out.2; omega)
         case rel => exact ⟨i + 1, n + 1, last, congrArg _ (by first | rfl | exact Z.out.1), rfl, congrArg _ (by first | rfl | exact Z.out.2.2.2 | omega), ⟨CI.out, rfl⟩, ⟨by rw [← HX.out.1, HD.out, fr, if_pos CQ.out], by have := HX.out.2; omega, by have := HX.out.2; omega⟩, HB, HB3⟩
       · have e2 : (Int.tdiv pg 64 != last) = true := by simp [cq]
         have CQ := Aside0.mk cq
         clear cq ci hi0 hm hyl hn
         go_wp2_with (first | ((with_reducible refine gate_dst (N := 6) rfl ?_); refine box_event ?hg (N := 6) ?hd (cs := #[.int .i64 0, .int .i64 0, .slice none 0 0]) (t := 46) ?hr ?_; (case hd => rfl); (case hg => rfl); (case hr => first | (go_simp; done) | (go_simp; rfl)); intro g6 hg wa hbox hb; have GE6 := Aside0.mk (show w.heap.size ≤ g6 by rw [hg]; exact HBr.out.size); have BK6 := Aside0.mk hbox; have HB := Aside0.mk (below_step HBr.out hb); have GE3 := Aside0.mk (show w3.heap.size ≤ g6 by rw [hg]; exact HB3r.out.size); have HB3 := Aside0.mk (below_step HB3r.out hb); clear hg hbox hb x0 x1 x2; have a0 : wa.cell? ⟨g6, 0, none⟩ = some (.int .i64 0) := (blk_cell BK6.out 0).trans rfl; have a1 : wa.cell? ⟨g6, 1, none⟩ = some (.int .i64 0) := (blk_cell BK6.out 1).trans rfl; have a2 : wa.cell? ⟨g6, 2, none⟩ = some (.slice none 0 0) := (blk_cell BK6.out 2).trans rfl; have f0 := blk_frozen BK6.out 0; have f1 := blk_frozen BK6.out 1; have f2 := blk_frozen BK6.out 2) | ((with_reducible refine gate_store (t := 46) (p := 6) (v := .tmp 16) rfl ?_); refine store_event (t := 46) (p := 6) (v := .tmp 16) (w1 := (((wa.setCell ⟨g6, 0, none⟩ (.int .i64 pg)).setCell ⟨g6, 1, none⟩ (.int .i64 pm)).setCell ⟨g6, 2, none⟩ (.slice A2 b.length c2))) rfl rfl rfl ?hr ?_; (case hr => first | (go_simp; done) | (go_simp; rfl)); intro wb hw; have q8 := blk_put BK6.out 0 (.int .i64 pg) rfl; have q9 := blk_put q8 1 (.int .i64 pm) rfl; have HB : Aside0 (Below w.heap.size w wb) := ⟨(by rw [hw]; exact below_set (below_set (below_set HB.out GE6.out) GE6.out) GE6.out)⟩; have HB3 : Aside0 (Below w3.heap.size w3 wb) := ⟨(by rw [hw]; exact below_set (below_set (below_set HB3.out GE3.out) GE3.out) GE3.out)⟩; have BK6 : Aside0 (wb.heap[g6]? = some (.cells #[.int .i64 pg, .int .i64 pm, .slice A2 b.length c2] 46 (0, 0))) := ⟨(by rw [hw]; exact blk_put q9 2 _ rfl)⟩; clear hw q8 q9 a0 a1 a2 f0 f1 f2; have c60 : wb.cell? ⟨g6, 0, none⟩ = some (.int .i64 pg) := (blk_cell BK6.out 0).trans rfl))
         go_roundg (y.length - (i + 1))
         case measure => (have := CI.out; have := HI.out.2; omega)
         case rel => exact ⟨i + 1, n + 1 + 1, Int.tdiv pg 64, congrArg _ (by first | rfl | exact Z.out.2.1 | (rw [Z.out.1]; exact Z.out.2.1)), congrArg _ (by first | rfl | exact Z.out.2.2.1), congrArg _ (by first | rfl | exact Z.out.2.2.2 | omega), ⟨CI.out, rfl⟩, ⟨by rw [← HX.out.1, HD.out, fr, if_neg CQ.out, Int.add_assoc]; rfl, by have := HX.out.2; omega, by have := HX.out.2; omega⟩, HB, HB3⟩
     · have e1 : decide ((i : Int) < (y.length : Int)) = false := decide_eq_false (by omega)
       have hf := HX.out.1
       rw [List.drop_of_length_le (by omega)] at hf
       have HNe : Aside0 (n = N) := ⟨hf⟩
       clear hf
       go_wp2_with fail
       go_ret
       exact ⟨by rw [HNe.out]; rfl, HBr.out⟩
  · have e0 : (r != 0) = true := by simp [h0]
    have HE := Aside0.mk (HN.out.trans (if_neg h0))
    clear HN h0
    go_wp2_with fail
    go_ret
    exact ⟨by rw [HE.out]; rfl, HB.out⟩
end Go.Proofs.Ytiinflgoflkomaa.LoadFrames
