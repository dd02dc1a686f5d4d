/- The document Pages. -/
import Derived.Test.YtiinflgoflkomaaLoadPg
namespace Go.Proofs.Ytiinflgoflkomaa.LoadRPages
open Go.RowKit Go.Proofs.Ytiinflgoflkomaa.PLoadChecks Go.Proofs.YtiinflgoflkomaaW.PrintWords Go.Proofs.YtiinflgoflkomaaW.PrintLast Go.Proofs.YtiinflgoflkomaaW.PrintMore Go.Proofs.Ytiinflgoflkomaa.Aid Go.Proofs.Ytiinflgoflkomaa.LoadF Go.Proofs.Ytiinflgoflkomaa.LoadSame2 Go.Proofs.Ytiinflgoflkomaa.LoadEnc Go.Proofs.Ytiinflgoflkomaa.LoadPure Go.Proofs.Ytiinflgoflkomaa.LoadPg
set_option linter.unusedVariables false
set_option linter.unusedSimpArgs false
set_option maxHeartbeats 1600000 in
set_option maxRecDepth 100000 in
theorem pages_calls (A : Option Addr) (c : Nat) (a : Int) (l : List S45) (w : World) (hr : Kd.C k45 w A l.length l) (hc : l.length ≤ c) (hl : Sz l) (ha : 0 ≤ a ∧ a < 4294967296) :
    Calls Try.prog 13 #[.agg #[.int .u32 a, .slice A l.length c]] w fun e w' => ∃ v, e = .returned v ∧ Kd.S k46 46 w' w.heap.size (fun _ => True) v (pagesL a l) ∧ Below w.heap.size w w' := by
  have HR := Aside0.mk hr
  have HC := Aside0.mk hc
  have HL := Aside0.mk hl
  have HA := Aside0.mk ha
  have HB := Aside0.mk (Below.refl w.heap.size w)
  obtain ⟨r, hr0⟩ : ∃ r, r = imgL a l := ⟨_, rfl⟩
  have HF := Aside0.mk ((rCheck_f (k := 20) ha.1 hl (Nat.le_refl _)).trans (congrArg some hr0.symm))
  have HYL : Aside0 ((pagesL a l).length ≤ 1024) := ⟨pagesL_length⟩
  have HY0 : Aside0 (pagesL a l = if r = 0 then l.flatMap pagesS else []) := ⟨by rw [hr0]; rfl⟩
  have HR0 := Aside0.mk hr0
  obtain ⟨y, hy⟩ : ∃ y, y = pagesL a l := ⟨_, rfl⟩
  rw [← hy]
  have HY := Aside0.mk (hy.trans HY0.out)
  have HYL : Aside0 (y.length ≤ 1024) := ⟨by rw [hy]; exact HYL.out⟩
  clear hr hc hl ha hr0 hy HY0
  go_enter Try.func13, Try.ntmps13
  go_wp2_with (first | ((with_reducible refine gate_dst (N := 1) rfl ?_); refine box_event ?hg (N := 1) ?hd (cs := #[.int .u32 a, .slice A l.length c]) (t := 25) ?hr ?_; (case hd => rfl); (case hg => rfl); (case hr => first | (go_simp; done) | (go_simp; rfl)); intro g1 hg w1 hbox hb; have GE1 := Aside0.mk (show w.heap.size ≤ g1 by rw [hg]; exact Nat.le_refl _); have BK1 := Aside0.mk hbox; have HB := Aside0.mk (below_step HB.out hb); clear hg hbox hb; have c10 : w1.cell? ⟨g1, 0, none⟩ = some (.int .u32 a) := (blk_cell BK1.out 0).trans rfl; have c11 : w1.cell? ⟨g1, 1, none⟩ = some (.slice A l.length c) := (blk_cell BK1.out 1).trans rfl))
  refine (bulkheadref13_Check.calls 20 a A c l r _ (Kd.C_below HR.out HB.out) HC.out HF.out).mono ?_
  rintro e w2 ⟨rfl, hb⟩
  have BK1 := Aside0.mk (blk_below BK1.out hb)
  have HB := Aside0.mk (below_step HB.out hb)
  clear hb c10 c11
  by_cases h0 : r = 0
  · have e0 : (r != 0) = false := by simp [h0]
    have HE := Aside0.mk (HY.out.trans (if_pos h0))
    clear HY
    have HO : Aside0 (a % 4 = 0 ∧ l.length ≤ 16 ∧ ∀ s ∈ l, 0 ≤ s.f0 ∧ s.f0 < 4096 ∧ 1 ≤ s.f1 ∧ s.f1 ≤ 7 ∧ 1 ≤ s.f2.length ∧ s.f2.length ≤ 16384) := ⟨by obtain ⟨h1, _, h3, h4⟩ := imgL_ok (HR0.out.symm.trans h0); exact ⟨h1, h3, chkL_all l 0 (-1) (by omega) h4⟩⟩
    clear h0
    have c11 : w2.cell? ⟨g1, 1, none⟩ = some (.slice A l.length c) := (blk_cell BK1.out 1).trans rfl
    go_wp2_with fail
    have RW : Aside0 (Kd.S k46 46 w2 w.heap.size (fun _ => True) (.slice none 0 0) []) := ⟨Kd.S_nil _ _ _ _ _⟩
    go_loopg [3, 4] l.length (fun k v3 vi w' => ∃ (i : Nat) (xs : List S46), vi = .int .i64 (i : Int) ∧ Aside0 (i ≤ l.length ∧ k = l.length - i) ∧ Aside0 (xs ++ (l.drop i).flatMap pagesS = y) ∧ Aside0 (w'.heap[g1]? = some (.cells #[.int .u32 a, .slice A l.length c] 25 (0, 0))) ∧ Aside0 (Kd.S k46 46 w' w.heap.size (fun _ => True) v3 xs) ∧ Aside0 (Below w.heap.size w w'))
    case atStart => exact ⟨0, [], rfl, ⟨Nat.zero_le _, rfl⟩, ⟨by rw [HE.out]; rfl⟩, BK1, RW, HB⟩
    case round =>
     clear BK1 HB RW c11
     obtain ⟨i, xs, rfl, HI, HX, BK1r, RWr, HBr⟩ := hrel
     have hi0 := HI.out.1
     have c11 : wr.cell? ⟨g1, 1, none⟩ = some (.slice A l.length c) := (blk_cell BK1r.out 1).trans rfl
     by_cases ci : i < l.length
     · have e1 : decide ((i : Int) < (l.length : Int)) = true := decide_eq_true (by omega)
       have p0 : 0 ≤ (i : Int) := by omega
       have q0 : (i : Int) < (l.length : Int) := by omega
       obtain ⟨ad, A2, c2, rfl, x0, x1, x2, l2, g2r⟩ := at_T45 HR.out i p0 q0
       rw [Int.toNat_natCast] at x0 x1 x2
       have x0 := cell_below HBr.out x0
       have x1 := cell_below HBr.out x1
       have x2 := cell_below HBr.out x2
       have hm := HO.out.2.2 _ (rd_mem ci)
       have HD : Aside0 (l.drop i = rd_T45 l (i : Int) :: l.drop (i + 1)) := ⟨rd_drop ci⟩
       generalize rd_T45 l (i : Int) = s at *
       obtain ⟨pg, pm, b⟩ := s
       simp only at x0 x1 x2 l2 g2r hm
       obtain ⟨ad2, rfl⟩ : ∃ ad2, A2 = some ad2 := by
         obtain ⟨ad2, h, _⟩ := g2r.2.2 (by omega)
         exact ⟨ad2, h⟩
       have HS := Aside0.mk g2r
       have HM := Aside0.mk hm
       have HC2 := Aside0.mk l2
       have hw : wrap64 ((i : Int) + 1) = ((i + 1 : Nat) : Int) := by
         have := HO.out.2.1
         rw [w64 (by omega) (by omega)]
         omega
       have HW := Aside0.mk hw
       have hi' := Aside0.mk ci
       obtain ⟨n, hn⟩ : ∃ n, n = np ⟨pg, pm, b⟩ := ⟨_, rfl⟩
       have HN := Aside0.mk hn
       have HEP : Aside0 (endP pg b.length = pg + (n : Int) - 1) := ⟨by rw [hn]; exact endP_np (s := ⟨pg, pm, b⟩) HM.out.2.2.2.2.1⟩
       have HNB : Aside0 (1 ≤ n ∧ n ≤ 64 ∧ ∀ j, j < n → j * 256 < b.length) := ⟨by have := HM.out; rw [hn]; unfold np; simp only; exact ⟨by omega, by omega, fun j hj => by omega⟩⟩
       have HEF : Aside0 (bulkheadref13_last.f pg pm b = some (pg + (n : Int) - 1)) := ⟨(last_f HM.out.2.2.2.2.1 (by have := HM.out; omega) (by have := HM.out; omega)).trans (congrArg some HEP.out)⟩
       clear ci hi0 hw g2r hm l2 hn
       go_wp2_with (first | ((with_reducible refine gate_dst (N := 5) rfl ?_); refine box_event ?hg (N := 5) ?hd (cs := #[.int .i64 0, .int .i64 0, .slice none 0 0]) (t := 45) ?hr ?_; (case hd => rfl); (case hg => rfl); (case hr => first | (go_simp; done) | (go_simp; rfl)); intro g5 hg wa hbox hb; have GE5 := Aside0.mk (show w.heap.size ≤ g5 by rw [hg]; exact HBr.out.size); have BK5 := Aside0.mk hbox; have BK1 := Aside0.mk (blk_below BK1r.out hb); have RW := Aside0.mk (Kd.S_below RWr.out hb); have HB := Aside0.mk (below_step HBr.out hb); clear hg hbox hb x0 x1 x2 c11; have a0 : wa.cell? ⟨g5, 0, none⟩ = some (.int .i64 0) := (blk_cell BK5.out 0).trans rfl; have a1 : wa.cell? ⟨g5, 1, none⟩ = some (.int .i64 0) := (blk_cell BK5.out 1).trans rfl; have a2 : wa.cell? ⟨g5, 2, none⟩ = some (.slice none 0 0) := (blk_cell BK5.out 2).trans rfl; have f0 := blk_frozen BK5.out 0; have f1 := blk_frozen BK5.out 1; have f2 := blk_frozen BK5.out 2) | ((with_reducible refine gate_store (t := 45) (p := 5) (v := .tmp 23) rfl ?_); refine store_event (t := 45) (p := 5) (v := .tmp 23) (w1 := (((wa.setCell ⟨g5, 0, none⟩ (.int .i64 pg)).setCell ⟨g5, 1, none⟩ (.int .i64 pm)).setCell ⟨g5, 2, none⟩ (.slice (some ad2) b.length c2))) rfl rfl rfl ?hr ?_; (case hr => first | (go_simp; done) | (go_simp; rfl)); intro wb hw; have q8 := blk_put BK5.out 0 (.int .i64 pg) rfl; have q9 := blk_put q8 1 (.int .i64 pm) rfl; have BK1 : Aside0 (wb.heap[g1]? = some (.cells #[.int .u32 a, .slice (some ad) l.length c] 25 (0, 0))) := ⟨(by rw [hw]; exact (blk_far (blk_far (blk_far BK1.out (p := ⟨g5, 0, none⟩) (fun e => blk_ne BK1.out BK5.out (by decide) e) (.int .i64 pg)) (p := ⟨g5, 1, none⟩) (fun e => blk_ne BK1.out BK5.out (by decide) e) (.int .i64 pm)) (p := ⟨g5, 2, none⟩) (fun e => blk_ne BK1.out BK5.out (by decide) e) (.slice (some ad2) b.length c2)))⟩; have RW : Aside0 (Kd.S k46 46 wb w.heap.size (fun _ => True) u3 xs) := ⟨(by rw [hw]; exact Kd.S_set (Kd.S_set (Kd.S_set RW.out BK5.out (by decide) 0 _) q8 (by decide) 1 _) q9 (by decide) 2 _)⟩; have HB : Aside0 (Below w.heap.size w wb) := ⟨(by rw [hw]; exact below_set (below_set (below_set HB.out GE5.out) GE5.out) GE5.out)⟩; have BK5 : Aside0 (wb.heap[g5]? = some (.cells #[.int .i64 pg, .int .i64 pm, .slice (some ad2) b.length c2] 45 (0, 0))) := ⟨(by rw [hw]; exact blk_put q9 2 _ rfl)⟩; clear hw q8 q9 a0 a1 a2 f0 f1 f2; have c50 : wb.cell? ⟨g5, 0, none⟩ = some (.int .i64 pg) := (blk_cell BK5.out 0).trans rfl))
       go_loopg [3, 6] (n + 1) (fun k v3 v6 w' => ∃ (j : Nat) (xs : List S46), v6 = .int .i64 (pg + (j : Int)) ∧ Aside0 (j ≤ n ∧ k = n + 1 - j) ∧ Aside0 (xs ++ (pagesS ⟨pg, pm, b⟩).drop j ++ (l.drop (i + 1)).flatMap pagesS = y) ∧ Aside0 (w'.heap[g1]? = some (.cells #[.int .u32 a, .slice (some ad) l.length c] 25 (0, 0))) ∧ Aside0 (w'.heap[g5]? = some (.cells #[.int .i64 pg, .int .i64 pm, .slice (some ad2) b.length c2] 45 (0, 0))) ∧ Aside0 (Kd.S k46 46 w' w.heap.size (fun _ => True) v3 xs) ∧ Aside0 (Below w.heap.size w w'))
       case atStart => exact ⟨0, xs, congrArg _ (Int.add_zero _).symm, ⟨Nat.zero_le _, rfl⟩, ⟨by rw [← HX.out, HD.out, List.flatMap_cons, List.drop_zero, List.append_assoc]⟩, BK1, BK5, RW, HB⟩
       case round =>
         clear BK1 BK5 RW HB c50
         obtain ⟨j, zs, rfl, HJ, HZ, BK1s, BK5s, RWs, HBs⟩ := hrel
         have hj0 := HJ.out.1
         have c50 : wr.cell? ⟨g5, 0, none⟩ = some (.int .i64 pg) := (blk_cell BK5s.out 0).trans rfl
         have c51 : wr.cell? ⟨g5, 1, none⟩ = some (.int .i64 pm) := (blk_cell BK5s.out 1).trans rfl
         have c52 : wr.cell? ⟨g5, 2, none⟩ = some (.slice (some ad2) b.length c2) := (blk_cell BK5s.out 2).trans rfl
         go_wp2_with fail
         refine (bulkheadref13_last.calls pg pm (some ad2) c2 b (pg + (n : Int) - 1) _ (Kd.C_below HS.out HBs.out) HC2.out HEF.out).mono ?_
         rintro e wc ⟨rfl, hb⟩
         have BK1 := Aside0.mk (blk_below BK1s.out hb)
         have BK5 := Aside0.mk (blk_below BK5s.out hb)
         have RW := Aside0.mk (Kd.S_below RWs.out hb)
         have HB := Aside0.mk (below_step HBs.out hb)
         clear hb c50 c51 c52
         by_cases cj : j < n
         · have e2 : decide (pg + (j : Int) ≤ pg + (n : Int) - 1) = true := decide_eq_true (by omega)
           have hcj := HNB.out.2.2 j cj
           have HCJ := Aside0.mk hcj
           have pgb := HM.out.1
           have pgb2 := HM.out.2.1
           have nb2 := HNB.out.2.1
           have z1 : wrap64 (pg + (j : Int) - pg) = (j : Int) := by rw [w64 (by omega) (by omega)]; omega
           have z2 : wrap64 ((j : Int) * 256) = ((j * 256 : Nat) : Int) := by rw [w64 (by omega) (by omega)]; omega
           have hbl : b.length ≤ 16384 := HM.out.2.2.2.2.2
           have hcl : b.length ≤ c2 := HC2.out
           have z3 : ((pg + (j : Int) - pg) * 256).toNat = j * 256 := by omega
           have HZL : Aside0 (zs.length ≤ 1024) := ⟨by have := HYL.out; have h := congrArg List.length HZ.out; simp only [List.length_append] at h; omega⟩
           have HPD : Aside0 ((pagesS ⟨pg, pm, b⟩).drop j = page ⟨pg, pm, b⟩ j :: (pagesS ⟨pg, pm, b⟩).drop (j + 1)) := ⟨pagesS_drop (by rw [← HN.out]; exact cj)⟩
           have z4 : wrap64 (pg + (j : Int) + 1) = pg + ((j + 1 : Nat) : Int) := by rw [w64 (by omega) (by omega)]; omega
           have Z4 := Aside0.mk z4
           have CJ := Aside0.mk cj
           clear z4 cj
           go_wp2_with (first | ((with_reducible refine gate_dst (N := 32) rfl ?_); refine Kd.R_make (Kd.int .u8) (w0 := w) w.heap.size 5 rfl (N := 32) rfl 27 _ _ rfl 256 rfl rfl Try.underlying27 (.int .u8 0) 1 info5 rfl (by decide) (by decide) (0 : Int) (ok := fun _ => True) (okp := fun _ => False) rfl (fun _ h => h.elim) trivial (by decide) (by decide) HB.out HB.out.size ?_; intro v7 wd ho7 hb hg7 hn7; obtain ⟨g7, cap7, cur7, rfl, ge7, bk7, hc7, hm7, hl7, ht7⟩ := made_open ho7; have GN7 : Aside0 (wc.heap.size ≤ g7) := ⟨(by obtain ⟨k, hk, hk2⟩ := hn7; simp [Value.ownBlock] at hk; omega)⟩; have BK7 := Aside0.mk bk7; have P7 := Aside0.mk (And.intro ge7 (And.intro hc7 (And.intro hm7 (And.intro hl7 ht7)))); have HBD := Aside0.mk (below_grown (B := wc.heap.size) hg7 (Nat.le_refl _)); clear ho7 hb hg7 hn7 ge7 bk7 hc7 hm7 hl7 ht7; have BK5d := Aside0.mk (blk_below BK5.out HBD.out); have c50 : wd.cell? ⟨g5, 0, none⟩ = some (.int .i64 pg) := (blk_cell BK5d.out 0).trans rfl; have c52 : wd.cell? ⟨g5, 2, none⟩ = some (.slice (some ad2) b.length c2) := (blk_cell BK5d.out 2).trans rfl) | ((with_reducible refine gate_builtin (b := .copy) (xs := #[.tmp 33, .tmp 41]) rfl ?_); refine wpList_copy_splice rfl (.tmp 33) (.tmp 41) 27 27 rfl 5 Try.underlying27 size5 _ _ _ _ _ _ rfl rfl g7 0 cur7 5 BK7.out ((cut b j).map fun n => Value.int .u8 n) ?hn ?hpos ?hfit ?h1 g7 wd (Below.refl _ _) (Nat.le_refl _) ?_; (case hn => rw [List.length_map, cut_length]); (case hpos => exact fun _ => ⟨rfl, _, rfl, by exact cut_cells (Kd.C_below HS.out (HB.out.trans (below_weak HBD.out HB.out.size))) hcj⟩); (case hfit => rw [List.length_map, P7.out.2.2.2.1, Nat.zero_add]; exact Nat.le_trans (cut_le b j) P7.out.2.1); (case h1 => exact u8_one _); intro we hh hb; have HBE := Aside0.mk (HBD.out.trans (below_weak hb GN7.out)); have R7 := Aside0.mk (page_row (base := w.heap.size) (cut_le b j) P7.out.1 P7.out.2.1 P7.out.2.2.1 P7.out.2.2.2.1 P7.out.2.2.2.2 hh.out); have BK7 := Aside0.mk hh.out; have BK1 := Aside0.mk (blk_below BK1.out HBE.out); have BK5 := Aside0.mk (blk_below BK5.out HBE.out); have RW0 := Aside0.mk (Kd.S_below (Kd.S_mono (ok' := fun k => True ∧ ¬ k = g7) (Kd.S_bound RW.out) (fun k hk => ⟨trivial, fun e => by have := hk.2.2.1; have := GN7.out; omega⟩)) HBE.out); have HB := Aside0.mk (below_step HB.out HBE.out); clear hh hb c50 c52 BK5d; have c51 : we.cell? ⟨g5, 1, none⟩ = some (.int .i64 pm) := (blk_cell BK5.out 1).trans rfl) | ((with_reducible refine gate_builtin (b := .append) (xs := #[.tmp 43, .tmp 49]) rfl ?_); at_builtin; refine Kd.S_append k46 (w0 := w) w.heap.size rfl (.tmp 43) (.tmp 49) 31 46 (.agg #[(.int .i64 0), (.int .i64 0), (.slice none 0 0)]) 40 rfl Try.underlying31 info46 rfl (by decide) (by omega) u3 zs (page ⟨pg, pm, b⟩ j) [.int .i64 (pg + (j : Int)), .int .i64 pm, .slice (some ⟨g7, 0, none⟩) 256 cap7] (fun _ => True) (fun k => k = g7) rfl rfl (k46_mkM _ _ _ (page ⟨pg, pm, b⟩ j) R7.out) (fun k hk => ⟨trivial, by rw [hk]; exact Kd.S_ne RW0.out BK7.out (by decide)⟩) (fun _ _ => trivial) RW0.out HB.out HB.out.size (by have := HZL.out; omega) ?_; intro v8 wf ho hb hgr _; have BK1 := Aside0.mk (blk_grown BK1.out hgr (Kd.S_ne RW0.out BK1.out (by decide))); have BK5 := Aside0.mk (blk_grown BK5.out hgr (Kd.S_ne RW0.out BK5.out (by decide))); have RW := Aside0.mk ho; have HB := Aside0.mk hb; clear ho hb hgr c51))
           go_roundg (n + 1 - (j + 1))
           case measure =>
             have := CJ.out
             have := HJ.out.2
             omega
           case rel => exact ⟨j + 1, zs ++ [page ⟨pg, pm, b⟩ j], congrArg _ (by first | exact Z4.out | omega), ⟨CJ.out, rfl⟩, ⟨by rw [← HZ.out, HPD.out]; simp only [List.append_assoc, List.cons_append, List.nil_append]⟩, BK1, BK5, RW, HB⟩
         · have e2 : decide (pg + (j : Int) ≤ pg + (n : Int) - 1) = false := decide_eq_false (by omega)
           have HDR : Aside0 ((pagesS ⟨pg, pm, b⟩).drop j = []) := ⟨List.drop_of_length_le (by rw [pagesS_length, ← HN.out]; omega)⟩
           go_wp2_with fail
           go_roundg (l.length - (i + 1))
           case measure =>
             have := hi'.out
             have := HI.out.2
             omega
           case rel => exact ⟨i + 1, zs, congrArg _ (by first | exact HW.out | omega), ⟨hi'.out, rfl⟩, ⟨by rw [← HZ.out, HDR.out, List.append_nil]⟩, BK1, RW, HB⟩
     · have e1 : decide ((i : Int) < (l.length : Int)) = false := decide_eq_false (by omega)
       have hxe : xs = y := by have := HX.out; rw [List.drop_of_length_le (by omega)] at this; simpa using this
       subst hxe
       go_wp2_with fail
       go_ret
       exact ⟨_, rfl, RWr.out, HBr.out⟩
  · have e0 : (r != 0) = true := by simp [h0]
    have HE := Aside0.mk (HY.out.trans (if_neg h0))
    clear HY
    clear h0
    go_wp2_with fail
    go_ret
    exact ⟨_, rfl, by rw [HE.out]; exact Kd.S_nil _ _ _ _ _, HB.out⟩
end Go.Proofs.Ytiinflgoflkomaa.LoadRPages
