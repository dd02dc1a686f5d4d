/- The document: Frames. -/
import Derived.Test.YtiinflgoflkomaaLoadFr
namespace Go.Proofs.Ytiinflgoflkomaa.LoadRFrames
open Go.RowKit Go.Proofs.Ytiinflgoflkomaa.PLoadChecks Go.Proofs.YtiinflgoflkomaaW.PrintWords Go.Proofs.YtiinflgoflkomaaW.PrintLast Go.Proofs.YtiinflgoflkomaaW.PrintMore Go.Proofs.Ytiinflgoflkomaa.Aid Go.Proofs.Ytiinflgoflkomaa.LoadF Go.Proofs.Ytiinflgoflkomaa.LoadSame2 Go.Proofs.Ytiinflgoflkomaa.LoadEnc Go.Proofs.Ytiinflgoflkomaa.LoadPure Go.Proofs.Ytiinflgoflkomaa.LoadPg
set_option linter.unusedVariables false
set_option linter.unusedSimpArgs false
open Go.Proofs.Ytiinflgoflkomaa.LoadFr
set_option maxHeartbeats 1600000 in
set_option maxRecDepth 100000 in
theorem frames_calls (A : Option Addr) (c : Nat) (a : Int) (l : List S45) (w : World) (hr : Kd.C k45 w A l.length l) (hc : l.length ≤ c) (hl : Sz l) (ha : 0 ≤ a ∧ a < 4294967296) :
    Calls Try.prog 15 #[.agg #[.int .u32 a, .slice A l.length c]] w fun e w' => e = .returned (.int .i64 (framesL a l)) ∧ Below w.heap.size w w' := by
  have HR := Aside0.mk hr
  have HC := Aside0.mk hc
  have HL := Aside0.mk hl
  have HA := Aside0.mk ha
  have HB := Aside0.mk (Below.refl w.heap.size w)
  obtain ⟨r, hr0⟩ : ∃ r, r = imgL a l := ⟨_, rfl⟩
  have HF := Aside0.mk ((rCheck_f (k := 20) ha.1 hl (Nat.le_refl _)).trans (congrArg some hr0.symm))
  obtain ⟨y, hy⟩ : ∃ y, y = pagesL a l := ⟨_, rfl⟩
  have HYL : Aside0 (y.length ≤ 1024 ∧ ∀ p ∈ y, 0 ≤ p.f0 ∧ p.f0 < 8192) := ⟨by rw [hy]; exact ⟨pagesL_length, pages_ge⟩⟩
  obtain ⟨N, hN⟩ : ∃ N, N = framesL a l := ⟨_, rfl⟩
  have HN : Aside0 (N = if r = 0 then fr (-1) 1 y else 0) := ⟨by rw [hN, hr0, hy]; rfl⟩
  have HY := Aside0.mk hy
  rw [← hN]
  clear hr hc hl ha hr0 hy hN
  go_enter Try.func15, Try.ntmps15
  go_wp2_with (first | ((with_reducible refine gate_dst (N := 1) rfl ?_); refine box_event ?hg (N := 1) ?hd (cs := #[.int .u32 a, .slice A l.length c]) (t := 25) ?hr ?_; (case hd => rfl); (case hg => rfl); (case hr => first | (go_simp; done) | (go_simp; rfl)); intro g1 hg w1 hbox hb; have BK1 := Aside0.mk hbox; have HB := Aside0.mk (below_step HB.out hb); clear hg hbox hb; have c10 : w1.cell? ⟨g1, 0, none⟩ = some (.int .u32 a) := (blk_cell BK1.out 0).trans rfl; have c11 : w1.cell? ⟨g1, 1, none⟩ = some (.slice A l.length c) := (blk_cell BK1.out 1).trans rfl))
  refine (bulkheadref13_Check.calls 20 a A c l r _ (Kd.C_below HR.out HB.out) HC.out HF.out).mono ?_
  rintro e w2 ⟨rfl, hb⟩
  have BK1 := Aside0.mk (blk_below BK1.out hb)
  have HB := Aside0.mk (below_step HB.out hb)
  clear hb c10 c11
  have c10 : w2.cell? ⟨g1, 0, none⟩ = some (.int .u32 a) := (blk_cell BK1.out 0).trans rfl
  have c11 : w2.cell? ⟨g1, 1, none⟩ = some (.slice A l.length c) := (blk_cell BK1.out 1).trans rfl
  by_cases h0 : r = 0
  · have e0 : (r != 0) = false := by simp [h0]
    have HE := Aside0.mk (HN.out.trans (if_pos h0))
    clear HN h0
    go_wp2_with fail
    refine (LoadRPages.pages_calls A c a l _ (Kd.C_below HR.out HB.out) HC.out HL.out HA.out).mono ?_
    rintro e w3 ⟨v, rfl, hs, hb⟩
    rw [← HY.out] at hs
    obtain ⟨A9, c9, rfl, hc9, hr9⟩ := Kd.S_reads hs
    have R9 := Aside0.mk hr9
    have HB := Aside0.mk (below_step HB.out hb)
    clear hs hc9 hr9 hb c10 c11 BK1
    go_wp2_with fail
    go_loopg [3, 5] y.length (fun k v3 v5 w' => ∃ (i : Nat) (n : Int), v3 = .int .i64 n ∧ v5 = .int .i64 (i : Int) ∧ Aside0 (i ≤ y.length ∧ k = y.length - i) ∧ Aside0 (fr (if i = 0 then -1 else Int.tdiv (rd_T46 y ((i : Int) - 1)).f0 64) n (y.drop i) = N ∧ 0 ≤ n ∧ n ≤ 1 + 2 * (i : Int)) ∧ Aside0 (Drawn0 w3 w'))
    case atStart => exact ⟨0, 1, rfl, rfl, ⟨Nat.zero_le _, rfl⟩, ⟨by rw [HE.out]; rfl, by decide, by decide⟩, by exact ⟨by repeat (first | exact Drawn0.refl _ | apply Drawn0.step)⟩⟩
    case round =>
     obtain ⟨i, n, rfl, rfl, HI, HX, HDr⟩ := hrel
     have hi0 := HI.out.1
     by_cases ci : i < y.length
     · have e1 : decide ((i : Int) < (y.length : Int)) = true := decide_eq_true (by omega)
       have p0 : 0 ≤ (i : Int) := by omega
       have q0 : (i : Int) < (y.length : Int) := by omega
       have hm := HYL.out.2 _ (rdp_mem ci)
       have hyl := HYL.out.1
       have hn := HX.out.2
       have HD : Aside0 (y.drop i = rd_T46 y (i : Int) :: y.drop (i + 1)) := ⟨rdp_drop ci⟩
       have R9r := Aside0.mk (show Kd.C k46 wr A9 y.length y by obtain ⟨m, rfl⟩ := HDr.out; exact Kd.C_drewN R9.out m)
       obtain ⟨ad, A2, c2, rfl, x0, x1, x2, l2, g2r⟩ := at_T46 R9r.out i p0 q0
       rw [Int.toNat_natCast] at x0 x1 x2
       clear x1 x2 l2 g2r
       have HD2 : Aside0 (∀ pg, (rd_T46 y (i : Int)).f0 = pg → fr (if i + 1 = 0 then -1 else Int.tdiv (rd_T46 y (((i + 1 : Nat) : Int) - 1)).f0 64) = fr (Int.tdiv pg 64)) := ⟨fun pg h => by rw [if_neg (by omega), show ((i + 1 : Nat) : Int) - 1 = (i : Int) by omega, h]⟩
       obtain ⟨pg, hpg⟩ : ∃ pg, pg = (rd_T46 y (i : Int)).f0 := ⟨_, rfl⟩
       rw [← hpg] at x0 hm
       have HPG := Aside0.mk hpg
       have z1 : wrap64 (n + 1) = n + 1 := w64 (by omega) (by omega)
       have z2 : wrap64 (n + 1 + 1) = n + 1 + 1 := w64 (by omega) (by omega)
       have z3 : wrap64 (Int.tdiv pg 64) = Int.tdiv pg 64 := by rw [Int.tdiv_eq_ediv_of_nonneg hm.1, w64 (by omega) (by omega)]
       have z4 : wrap64 ((i : Int) + 1) = ((i + 1 : Nat) : Int) := by rw [w64 (by omega) (by omega)]; omega
       have Z := Aside0.mk (And.intro z1 (And.intro z2 (And.intro z3 z4)))
       have HM := Aside0.mk hm
       have CI := Aside0.mk ci
       have HFR : Aside0 (∀ last, fr last n (y.drop i) = if Int.tdiv pg 64 = last then fr last (n + 1) (y.drop (i + 1)) else fr (Int.tdiv pg 64) (n + 2) (y.drop (i + 1))) := ⟨fun last => by rw [HD.out, fr, ← hpg]⟩
       clear hpg
       by_cases c0 : i = 0
       · have e2 : ((i : Int) == 0) = true := by simp [c0]
         have HFN : Aside0 (fr (Int.tdiv pg 64) (n + 2) (y.drop (i + 1)) = N) := ⟨by have h := HX.out.1; rw [if_pos c0, HFR.out, if_neg (by rw [Int.tdiv_eq_ediv_of_nonneg hm.1]; omega)] at h; exact h⟩
         clear c0 ci hi0 hm hyl hn
         go_wp2
         go_quiet (fail)
         go_wp2
         go_roundg (y.length - (i + 1))
         case measure => (have := CI.out; have := HI.out.2; omega)
         case rel => exact ⟨i + 1, n + 1 + 1, congrArg _ (by first | rfl | exact Z.out.2.1 | (rw [Z.out.1]; exact Z.out.2.1)), congrArg _ (by first | rfl | exact Z.out.2.2.2 | omega), ⟨CI.out, rfl⟩, ⟨by rw [HD2.out pg HPG.out.symm, Int.add_assoc]; exact HFN.out, by have := HX.out.2; omega, by have := HX.out.2; omega⟩, ⟨by repeat (first | exact HDr.out | apply Drawn0.step)⟩⟩
       · have e2 : ((i : Int) == 0) = false := by
           rw [beq_eq_false_iff_ne]
           omega
         obtain ⟨k, hk⟩ : ∃ k : Nat, i = k + 1 := ⟨i - 1, by omega⟩
         have HK := Aside0.mk hk
         obtain ⟨ad', A3, c3, had, y0, y1, y2, l3, g3r⟩ := at_T46 R9r.out (k : Int) (by omega) (by omega)
         have had : ad = ad' := by simpa using had
         subst had
         rw [Int.toNat_natCast] at y0
         clear y1 y2 l3 g3r
         have HXL : Aside0 (fr (Int.tdiv (rd_T46 y (k : Int)).f0 64) n (y.drop i) = N) := ⟨by have h := HX.out.1; rw [if_neg c0, show (i : Int) - 1 = (k : Int) by omega] at h; exact h⟩
         have hq := HYL.out.2 _ (rdp_mem (l := y) (i := k) (by omega))
         generalize (rd_T46 y (k : Int)).f0 = qg at *
         have z6 : wrap64 (Int.tdiv qg 64) = Int.tdiv qg 64 := by rw [Int.tdiv_eq_ediv_of_nonneg hq.1, w64 (by omega) (by omega)]
         have z7 : 0 ≤ (k : Int) := by omega
         have z8 : (k : Int) < (y.length : Int) := by omega
         have z9 : IntKind.i64.wrap ((i : Int) - 1) = (k : Int) := by rw [i64_w, w64 (by omega) (by omega)]; omega
         have z10 : IntKind.i64.wrap (Int.tdiv qg 64) = Int.tdiv qg 64 := by rw [i64_w, z6]
         have z11 : IntKind.i64.wrap (Int.tdiv pg 64) = Int.tdiv pg 64 := by rw [i64_w, z3]
         clear hk
         by_cases cq : Int.tdiv pg 64 = Int.tdiv qg 64
         · have e3 : (Int.tdiv qg 64 != Int.tdiv pg 64) = false := by simp [cq]
           have HFN : Aside0 (fr (Int.tdiv pg 64) (n + 1) (y.drop (i + 1)) = N) := ⟨by have h := HXL.out; rw [HFR.out, if_pos cq, ← cq] at h; exact h⟩
           clear cq c0 ci hi0 hm hyl hn hq
           go_wp2
           go_quiet (fail)
           go_wp2
           go_roundg (y.length - (i + 1))
           case measure => (have := CI.out; have := HI.out.2; omega)
           case rel => exact ⟨i + 1, n + 1, congrArg _ (by first | rfl | exact Z.out.1), congrArg _ (by first | rfl | exact Z.out.2.2.2 | omega), ⟨CI.out, rfl⟩, ⟨by rw [HD2.out pg HPG.out.symm]; exact HFN.out, by have := HX.out.2; omega, by have := HX.out.2; omega⟩, ⟨by repeat (first | exact HDr.out | apply Drawn0.step)⟩⟩
         · have e3 : (Int.tdiv qg 64 != Int.tdiv pg 64) = true := by
             rw [bne_iff_ne]
             exact fun h => cq h.symm
           have HFN : Aside0 (fr (Int.tdiv pg 64) (n + 2) (y.drop (i + 1)) = N) := ⟨by have h := HXL.out; rw [HFR.out, if_neg cq] at h; exact h⟩
           clear cq c0 ci hi0 hm hyl hn hq
           go_wp2
           go_quiet (fail)
           go_wp2
           go_roundg (y.length - (i + 1))
           case measure => (have := CI.out; have := HI.out.2; omega)
           case rel => exact ⟨i + 1, n + 1 + 1, congrArg _ (by first | rfl | exact Z.out.2.1 | (rw [Z.out.1]; exact Z.out.2.1)), congrArg _ (by first | rfl | exact Z.out.2.2.2 | omega), ⟨CI.out, rfl⟩, ⟨by rw [HD2.out pg HPG.out.symm, Int.add_assoc]; exact HFN.out, by have := HX.out.2; omega, by have := HX.out.2; omega⟩, ⟨by repeat (first | exact HDr.out | apply Drawn0.step)⟩⟩
     · have e1 : decide ((i : Int) < (y.length : Int)) = false := decide_eq_false (by omega)
       have hf := HX.out.1
       rw [List.drop_of_length_le (by omega)] at hf
       have HNe : Aside0 (n = N) := ⟨hf⟩
       clear hf
       go_wp2_with fail
       go_ret
       exact ⟨by rw [HNe.out]; rfl, by obtain ⟨m, rfl⟩ := HDr.out; exact pw_below_drewN HB.out m⟩
  · have e0 : (r != 0) = true := by simp [h0]
    have HE := Aside0.mk (HN.out.trans (if_neg h0))
    clear HN h0
    go_wp2_with fail
    go_ret
    exact ⟨by rw [HE.out]; rfl, HB.out⟩
end Go.Proofs.Ytiinflgoflkomaa.LoadRFrames
