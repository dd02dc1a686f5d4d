/- The law LoadFrames: the walk. -/
import Derived.Test.YtiinflgoflkomaaLoadAsc
import Derived.Test.YtiinflgoflkomaaLoadRec
namespace Go.Proofs.Ytiinflgoflkomaa.LawLFrames
open Go.RowKit Go.Maps Go.Proofs.Ytiinflgoflkomaa.PLoadChecks Go.Proofs.YtiinflgoflkomaaW.PrintWords Go.Proofs.YtiinflgoflkomaaW.PrintLast Go.Proofs.YtiinflgoflkomaaW.PrintMore Go.Proofs.Ytiinflgoflkomaa.Aid Go.Proofs.Ytiinflgoflkomaa.LoadF Go.Proofs.Ytiinflgoflkomaa.LoadSame2 Go.Proofs.Ytiinflgoflkomaa.LoadEnc Go.Proofs.Ytiinflgoflkomaa.LoadPure Go.Proofs.Ytiinflgoflkomaa.LoadPg Go.Proofs.Ytiinflgoflkomaa.LoadFr Go.Proofs.Ytiinflgoflkomaa.LoadAsc
set_option linter.unusedVariables false
set_option linter.unusedSimpArgs false
theorem wf_i64 {x : Int} (h0 : -9223372036854775808 ≤ x) (h1 : x ≤ 9223372036854775807) : (Lit.int .i64 x).wf = true := by
  have e0 : IntKind.i64.min = -9223372036854775808 := by decide
  have e1 : IntKind.i64.max = 9223372036854775807 := by decide
  simp only [Lit.wf, e0, e1, Bool.and_eq_true, decide_eq_true_eq]
  exact ⟨h0, h1⟩
set_option maxHeartbeats 3200000 in
set_option maxRecDepth 100000 in
theorem law (A : Option Addr) (c : Nat) (a : Int) (l : List S45) (w : World) (hr : Kd.C k45 w A l.length l) (hc : l.length ≤ c) (hl : Sz l) (ha : 0 ≤ a ∧ a < 4294967296) :
    Calls Try.prog 5 #[.agg #[.int .u32 a, .slice A l.length c]] w fun e w' => e = .returned (.bool true) ∧ Below w.heap.size w w' := by
  have HR := Aside0.mk hr
  have HC := Aside0.mk hc
  have HL := Aside0.mk hl
  have HA := Aside0.mk ha
  have HB := Aside0.mk (Below.refl w.heap.size w)
  have HCP := Aside0.mk (Copy_f (a := a) hl)
  obtain ⟨r, hr0⟩ : ∃ r, r = imgL a l := ⟨_, rfl⟩
  have HF := Aside0.mk ((Check_f (k := 20) ha.1 hl (Nat.le_refl _)).trans (congrArg some hr0.symm))
  obtain ⟨y, hy⟩ : ∃ y, y = pagesL a l := ⟨_, rfl⟩
  obtain ⟨N, hN⟩ : ∃ N, N = framesL a l := ⟨_, rfl⟩
  have HYL : Aside0 (y.length ≤ 1024 ∧ ∀ p ∈ y, 0 ≤ p.f0 ∧ p.f0 < 4096 ∧ 1 ≤ p.f1 ∧ p.f1 ≤ 7 ∧ p.f2.length = 256) := ⟨by rw [hy]; exact ⟨pagesL_length, pagesL_sorted.2⟩⟩
  have HYS : Aside0 (y.Pairwise (fun p q => p.f0 < q.f0)) := ⟨by rw [hy]; exact pagesL_sorted.1⟩
  have HN := Aside0.mk hN
  have HN2 : Aside0 (N = if r = 0 then fr (-1) 1 y else 0) := ⟨by rw [hN, hr0, hy]; rfl⟩
  have HY := Aside0.mk hy
  have HY2 : Aside0 (r ≠ 0 → y = []) := ⟨fun h => by rw [hy]; unfold pagesL; rw [if_neg (by rw [← hr0]; exact h)]⟩
  clear hr hc hl ha hr0 hy hN
  go_enter Try.func5, Try.ntmps5
  go_wp2_with (first | ((with_reducible refine gate_dst (N := 1) rfl ?_); refine box_event ?hg (N := 1) ?hd (cs := #[.int .u32 a, .slice A l.length c]) (t := 25) ?hr ?_; (case hd => rfl); (case hg => rfl); (case hr => first | (go_simp; done) | (go_simp; rfl)); intro g1 hg w1 hbox hb; have BK1 := Aside0.mk hbox; have HB := Aside0.mk (below_step HB.out hb); clear hg hbox hb))
  refine (LoadWorks.works_calls _).mono ?_
  rintro e w2 ⟨rfl, hb⟩
  have BK1 := Aside0.mk (blk_below BK1.out hb)
  have HB := Aside0.mk (below_step HB.out hb)
  have c10 : w2.cell? ⟨g1, 0, none⟩ = some (.int .u32 a) := (blk_cell BK1.out 0).trans rfl
  have c11 : w2.cell? ⟨g1, 1, none⟩ = some (.slice A l.length c) := (blk_cell BK1.out 1).trans rfl
  clear hb
  go_wp2_with fail
  refine (bulkheadref13_Copy.calls (l.length + 1) a A c l a l _ (Kd.C_below HR.out HB.out) HC.out HCP.out).mono ?_
  rintro e w3 ⟨v1, rfl, hs, hb⟩
  obtain ⟨A3, c3, rfl, hc3, hr3⟩ := Kd.S_reads hs
  have HC3 := Aside0.mk hc3
  have HO := Aside0.mk hr3
  have BK1 := Aside0.mk (blk_below BK1.out hb)
  have HB := Aside0.mk (below_step HB.out hb)
  clear hs hc3 hr3 hb c10 c11
  go_wp2_with fail
  refine (LoadPages.pages_calls A3 c3 a l _ HO.out HC3.out HL.out HA.out).mono ?_
  rintro e w4 ⟨v8, rfl, hs, hb⟩
  rw [← HY.out] at hs
  obtain ⟨A8, c8, rfl, hc8, hr8⟩ := Kd.S_reads hs
  have HP := Aside0.mk hr8
  have BK1 := Aside0.mk (blk_below BK1.out hb)
  have HB := Aside0.mk (below_step HB.out hb)
  have c10 : w4.cell? ⟨g1, 0, none⟩ = some (.int .u32 a) := (blk_cell BK1.out 0).trans rfl
  have c11 : w4.cell? ⟨g1, 1, none⟩ = some (.slice A l.length c) := (blk_cell BK1.out 1).trans rfl
  clear hs hc8 hr8 hb
  go_wp2_with fail
  refine (load_Check.calls 20 a A c l r _ (Kd.C_below HR.out HB.out) HC.out HF.out).mono ?_
  rintro e w5 ⟨rfl, hb⟩
  have HP := Aside0.mk (Kd.C_below HP.out hb)
  have BK1 := Aside0.mk (blk_below BK1.out hb)
  have HB := Aside0.mk (below_step HB.out hb)
  clear hb c10 c11
  have c10 : w5.cell? ⟨g1, 0, none⟩ = some (.int .u32 a) := (blk_cell BK1.out 0).trans rfl
  have c11 : w5.cell? ⟨g1, 1, none⟩ = some (.slice A l.length c) := (blk_cell BK1.out 1).trans rfl
  by_cases h0 : r = 0
  · have e0 : (r != 0) = false := by simp [h0]
    have HE : Aside0 (N = fr (-1) 1 y) := ⟨HN2.out.trans (if_pos h0)⟩
    clear h0
    have hmm := @run_makeMap Try.prog
    go_upto_region 7 with fail
    clear hmm c10 c11
    have HM0 : Aside0 (MapIs (w5.alloc (.map #[] 0)) w5.heap.size 0 0 (-1)) := ⟨MapIs.made w5⟩
    have HB5 : Aside0 (Below w5.heap.size w5 (w5.alloc (.map #[] 0))) := ⟨below_alloc (Below.refl _ _) _⟩
    obtain ⟨bm, hbm⟩ : ∃ bm, bm = w5.heap.size := ⟨_, rfl⟩
    rw [← hbm] at HM0
    have GB : Aside0 (w5.heap.size ≤ bm) := ⟨by rw [hbm]; exact Nat.le_refl _⟩
    rw [← hbm]
    generalize w5.alloc (.map #[] 0) = W3 at *
    clear hbm
    go_wp2_with fail
    go_loopg [5] y.length (fun k v5 w' => ∃ (i cnt : Nat) (last : Int), v5 = .int .i64 (i : Int) ∧ Aside0 (i ≤ y.length ∧ k = y.length - i) ∧ Aside0 (MapIs w' bm i cnt last) ∧ Aside0 (fr last (1 + (i : Int) + (cnt : Int)) (y.drop i) = N) ∧ Aside0 ((i = 0 → last = -1 ∧ cnt = 0) ∧ (0 < i → last = Int.tdiv (rd_T46 y ((i : Int) - 1)).f0 64) ∧ cnt ≤ i ∧ (0 < i → 0 < cnt)) ∧ Aside0 (Below w5.heap.size w5 w'))
    case atStart => exact ⟨0, 0, -1, rfl, ⟨Nat.zero_le _, rfl⟩, HM0, ⟨by rw [HE.out]; rfl⟩, ⟨fun _ => ⟨rfl, rfl⟩, fun h => absurd h (by omega), Nat.le_refl _, fun h => absurd h (by omega)⟩, HB5⟩
    case round =>
     clear HM0 HB5
     obtain ⟨i, cnt, last, rfl, HI, HM, HX, HLC, HBM⟩ := hrel
     have hi0 := HI.out.1
     by_cases ci : i < y.length
     · have e1 : decide ((i : Int) < (y.length : Int)) = true := decide_eq_true (by omega)
       have p0 : 0 ≤ (i : Int) := by omega
       have q0 : (i : Int) < (y.length : Int) := by omega
       have hm := HYL.out.2 _ (rdp_mem ci)
       have HD : Aside0 (y.drop i = rd_T46 y (i : Int) :: y.drop (i + 1)) := ⟨rdp_drop ci⟩
       have HPr := Aside0.mk (Kd.C_below HP.out HBM.out)
       obtain ⟨ad, A2, c2, rfl, x0, x1, x2, l2, g2r⟩ := at_T46 HPr.out i p0 q0
       rw [Int.toNat_natCast] at x0 x1 x2
       rw [hm.2.2.2.2] at x2
       clear l2 g2r
       obtain ⟨pg, hpg⟩ : ∃ pg, pg = (rd_T46 y (i : Int)).f0 := ⟨_, rfl⟩
       obtain ⟨pm, hpm⟩ : ∃ pm, pm = (rd_T46 y (i : Int)).f1 := ⟨_, rfl⟩
       rw [← hpg] at x0 hm
       rw [← hpm] at x1 hm
       have HPG := Aside0.mk hpg.symm
       have e2 : decide (pg < 0) = false := decide_eq_false (by omega)
       have e3 : decide (4095 < pg) = false := decide_eq_false (by omega)
       have e4 : decide (pm < 1) = false := decide_eq_false (by omega)
       have e5 : decide (7 < pm) = false := decide_eq_false (by omega)
       have hyl := HYL.out.1
       have z3 : wrap64 (Int.tdiv pg 64) = Int.tdiv pg 64 := by rw [Int.tdiv_eq_ediv_of_nonneg hm.1, w64 (by omega) (by omega)]
       have z4 : wrap64 ((i : Int) + 1) = ((i + 1 : Nat) : Int) := by rw [w64 (by omega) (by omega)]; omega
       have z11 : IntKind.i64.wrap (Int.tdiv pg 64) = Int.tdiv pg 64 := by rw [i64_w, z3]
       have Z4 := Aside0.mk z4
       have CI := Aside0.mk ci
       by_cases c0 : i = 0
       · have e6 : decide ((0 : Int) < (i : Int)) = false := decide_eq_false (by omega)
         have e6b : decide (0 < i) = false := decide_eq_false (by omega)
         have HQ : Aside0 ((Lit.int .i64 (Int.tdiv pg 64)).wf = true ∧ last ≤ Int.tdiv pg 64 ∧ (cnt = 0 → last < Int.tdiv pg 64)) := ⟨by
           have h1 := (HLC.out.1 c0).1
           rw [Int.tdiv_eq_ediv_of_nonneg hm.1]
           exact ⟨wf_i64 (by omega) (by omega), by omega, fun _ => by omega⟩⟩
         have HCN : Aside0 (Int.tdiv pg 64 = last → 0 < cnt) := ⟨fun h => by have h1 := (HLC.out.1 c0).1; have h2 : 0 ≤ Int.tdiv pg 64 := Int.tdiv_nonneg hm.1 (by decide); omega⟩
         clear z4 hpg hpm hm ci hi0 hyl c0
         go_wp2
         go_quiet (fail)
         have hmn : MapIs (wr.drewN nq) bm i cnt last := HM.out.below (pw_below_drewN (Below.refl _ _) nq)
         obtain ⟨w', hrun, hm', hg'⟩ := hmn.put (by have := HYL.out.1; omega) (p := Int.tdiv pg 64) HQ.out.1 HQ.out.2.1 HQ.out.2.2
         have HM' := Aside0.mk hm'
         have HBM' := Aside0.mk ((pw_below_drewN HBM.out nq).grown hg' (pw_below_drewN HBM.out nq).size (fun k hk => by injection hk with hk; rw [← hk]; exact GB.out))
         clear hm' hg' hmn
         go_wp2
         go_roundg (y.length - (i + 1))
         case measure => (have := CI.out; have := HI.out.2; omega)
         case rel =>
           refine ⟨i + 1, _, Int.tdiv pg 64, congrArg _ (by first | exact Z4.out | omega), ⟨CI.out, rfl⟩, HM', ⟨?_⟩, ⟨fun h => absurd h (by omega), fun _ => ?_, ?_, fun _ => ?_⟩, HBM'⟩
           · have h := HX.out
             rw [HD.out, fr] at h
             by_cases cq : Int.tdiv pg 64 = last
             · rw [if_pos (HPG.out ▸ cq)] at h
               rw [if_pos cq, ← h, cq]
               congr 1
               omega
             · rw [if_neg (HPG.out ▸ cq), HPG.out] at h
               rw [if_neg cq, ← h]
               congr 1
               omega
           · rw [show ((i + 1 : Nat) : Int) - 1 = (i : Int) by omega, HPG.out]
           · have := HLC.out.2.2.1
             split <;> omega
           · by_cases cq : Int.tdiv pg 64 = last
             · rw [if_pos cq]
               exact HCN.out cq
             · rw [if_neg cq]
               omega
       · have e6 : decide ((0 : Int) < (i : Int)) = true := decide_eq_true (by omega)
         have e6b : decide (0 < i) = true := decide_eq_true (by omega)
         obtain ⟨k, hk⟩ : ∃ k : Nat, i = k + 1 := ⟨i - 1, by omega⟩
         obtain ⟨ad', A3', c3', had, y0, y1, y2, l3, g3r⟩ := at_T46 HPr.out (k : Int) (by omega) (by omega)
         have had : ad = ad' := by simpa using had
         subst had
         rw [Int.toNat_natCast] at y0
         clear y1 y2 l3 g3r
         have hasc := asc_at HYS.out (k := k) (by omega)
         rw [show ((k + 1 : Nat) : Int) = (i : Int) by omega, ← hpg] at hasc
         have hq := HYL.out.2 _ (rdp_mem (l := y) (i := k) (by omega))
         have hlast := HLC.out.2.1 (by omega)
         rw [show (i : Int) - 1 = (k : Int) by omega] at hlast
         generalize (rd_T46 y (k : Int)).f0 = qg at *
         have z7 : 0 ≤ (k : Int) := by omega
         have z8 : (k : Int) < (y.length : Int) := by omega
         have z9 : IntKind.i64.wrap ((i : Int) - 1) = (k : Int) := by rw [i64_w, w64 (by omega) (by omega)]; omega
         have e7 : decide (pg ≤ qg) = false := decide_eq_false (by omega)
         have HQ : Aside0 ((Lit.int .i64 (Int.tdiv pg 64)).wf = true ∧ last ≤ Int.tdiv pg 64 ∧ (cnt = 0 → last < Int.tdiv pg 64)) := ⟨by
           rw [Int.tdiv_eq_ediv_of_nonneg hm.1, hlast, Int.tdiv_eq_ediv_of_nonneg hq.1]
           refine ⟨wf_i64 (by omega) (by omega), by omega, fun hc => ?_⟩
           exact absurd hc (by have := HLC.out.2.2.2 (by omega); omega)⟩
         have HCN : Aside0 (Int.tdiv pg 64 = last → 0 < cnt) := ⟨fun _ => HLC.out.2.2.2 (by omega)⟩
         clear z4 hpg hpm hm ci hi0 hyl c0 hk hasc hq hlast
         go_wp2
         go_quiet (fail)
         have hmn : MapIs (wr.drewN nq) bm i cnt last := HM.out.below (pw_below_drewN (Below.refl _ _) nq)
         obtain ⟨w', hrun, hm', hg'⟩ := hmn.put (by have := HYL.out.1; omega) (p := Int.tdiv pg 64) HQ.out.1 HQ.out.2.1 HQ.out.2.2
         have HM' := Aside0.mk hm'
         have HBM' := Aside0.mk ((pw_below_drewN HBM.out nq).grown hg' (pw_below_drewN HBM.out nq).size (fun k hk => by injection hk with hk; rw [← hk]; exact GB.out))
         clear hm' hg' hmn
         go_wp2
         go_roundg (y.length - (i + 1))
         case measure => (have := CI.out; have := HI.out.2; omega)
         case rel =>
           refine ⟨i + 1, _, Int.tdiv pg 64, congrArg _ (by first | exact Z4.out | omega), ⟨CI.out, rfl⟩, HM', ⟨?_⟩, ⟨fun h => absurd h (by omega), fun _ => ?_, ?_, fun _ => ?_⟩, HBM'⟩
           · have h := HX.out
             rw [HD.out, fr] at h
             by_cases cq : Int.tdiv pg 64 = last
             · rw [if_pos (HPG.out ▸ cq)] at h
               rw [if_pos cq, ← h, cq]
               congr 1
               omega
             · rw [if_neg (HPG.out ▸ cq), HPG.out] at h
               rw [if_neg cq, ← h]
               congr 1
               omega
           · rw [show ((i + 1 : Nat) : Int) - 1 = (i : Int) by omega, HPG.out]
           · have := HLC.out.2.2.1
             split <;> omega
           · by_cases cq : Int.tdiv pg 64 = last
             · rw [if_pos cq]
               exact HCN.out cq
             · rw [if_neg cq]
               omega
     · have e1 : decide ((i : Int) < (y.length : Int)) = false := decide_eq_false (by omega)
       have hf := HX.out
       rw [List.drop_of_length_le (by omega)] at hf
       have hf2 : 1 + (i : Int) + (cnt : Int) = N := hf
       have hiy : i = y.length := by omega
       have BK1 := Aside0.mk (blk_below BK1.out HBM.out)
       have HB := Aside0.mk (below_step HB.out HBM.out)
       have c10 : wr.cell? ⟨g1, 0, none⟩ = some (.int .u32 a) := (blk_cell BK1.out 0).trans rfl
       have c11 : wr.cell? ⟨g1, 1, none⟩ = some (.slice A l.length c) := (blk_cell BK1.out 1).trans rfl
       have HNE : Aside0 ((y.length : Int) + (cnt : Int) + 1 = N ∧ cnt ≤ y.length) := ⟨by omega, by have := HLC.out.2.2.1; omega⟩
       clear hf hf2
       go_wp2_with fail
       refine (LoadFrames.frames_calls A c a l _ (Kd.C_below HR.out HB.out) HC.out HL.out HA.out).mono ?_
       rintro e w7 ⟨he, hb⟩
       rw [← HN.out] at he
       subst he
       have HB := Aside0.mk (below_step HB.out hb)
       have hlen := fun ty => (HM.out.below hb).len ty
       have hyl := HYL.out.1
       have z1 : wrap64 ((y.length : Int) + (cnt : Int)) = (y.length : Int) + (cnt : Int) := by have := HNE.out; exact w64 (by omega) (by omega)
       have z2 : wrap64 ((y.length : Int) + (cnt : Int) + 1) = N := by have := HNE.out; rw [w64 (by omega) (by omega)]; omega
       have z3 : (y.length : Int) + (cnt : Int) + 1 = N := HNE.out.1
       have z5 : (N == (y.length : Int) + (cnt : Int) + 1) = true := by rw [z3]; simp
       clear z3
       clear hb c10 c11 hiy
       go_wp2_with fail
       go_ret
       exact ⟨rfl, HB.out⟩
  · have e0 : (r != 0) = true := by simp [h0]
    have HE : Aside0 (N = 0) := ⟨HN2.out.trans (if_neg h0)⟩
    have hy0 := HY2.out h0
    clear HY HYL HYS
    subst hy0
    clear h0
    go_wp2_with fail
    refine (LoadFrames.frames_calls A c a l _ (Kd.C_below HR.out HB.out) HC.out HL.out HA.out).mono ?_
    rintro e w6 ⟨he, hb⟩
    rw [← HN.out, HE.out] at he
    subst he
    have HB := Aside0.mk (below_step HB.out hb)
    clear hb c10 c11
    go_wp2_with fail
    go_ret
    exact ⟨rfl, HB.out⟩
theorem walk (x : Int) (A : Option Addr) (n c : Nat) (S : Nat → AidImg.Sec) (w : World) (hx : (Lit.int .u32 x).wf = true) (hs : AidImg.Secs w A n S) (hy : n * 40 ≤ 140737488351232) (hc : n ≤ c) (hz : ∀ i, i < n → (S i).n ≤ 140737488351232) :
    Calls Try.prog 5 #[.agg #[.int .u32 x, .slice A n c]] w fun e w' => e = .returned (.bool true) ∧ Below w.heap.size w w' := by
  have hl := LoadRec.secs_length n S
  have hr := LoadRec.secs_row hs (by simp only [maxLen]; omega) hy
  have h := law A c x (LoadRec.secs n S) w hr (by rw [hl]; exact hc) ⟨by rw [hl]; omega, fun s hs => ?_⟩ (u32_bd hx)
  · rw [hl] at h
    exact h
  · obtain ⟨i, hi, rfl⟩ := List.mem_map.1 hs
    have := hz i (List.mem_range.1 hi)
    simp [LoadRec.sec]
    omega
end Go.Proofs.Ytiinflgoflkomaa.LawLFrames
