/- No owner can tell by time what others do: the walk of the law. -/
import Derived.Test.YtagnlbpndldfeaaSLawCycles
namespace Go.Proofs.Ytagnlbpndldfeaa.SLawBlind
open Go.RowKit Go.Proofs.Ytagnlbpndldfeaa.PSchedPlays Go.Proofs.YtagnlbpndldfeaaW.PrintWords Go.Proofs.YtagnlbpndldfeaaW.PrintLast Go.Proofs.YtagnlbpndldfeaaW.PrintMore Go.Proofs.Ytagnlbpndldfeaa.Aid Go.Proofs.Ytagnlbpndldfeaa.PlanBase Go.Proofs.Ytagnlbpndldfeaa.SPlanAt Go.Proofs.Ytagnlbpndldfeaa.SPlanStart Go.Proofs.Ytagnlbpndldfeaa.SPlanCalls Go.Proofs.Ytagnlbpndldfeaa.SPlanBudget Go.Proofs.Ytagnlbpndldfeaa.SBase Go.Proofs.Ytagnlbpndldfeaa.SState Go.Proofs.Ytagnlbpndldfeaa.SLeave Go.Proofs.Ytagnlbpndldfeaa.SEnter Go.Proofs.Ytagnlbpndldfeaa.SCycPure Go.Proofs.Ytagnlbpndldfeaa.SLive Go.Proofs.Ytagnlbpndldfeaa.SNew Go.Proofs.Ytagnlbpndldfeaa.SWorks
set_option linter.unusedVariables false
set_option linter.unusedSimpArgs false
attribute [local go_sem] min2_int max2_int min_two max_two
open Go.Proofs.Ytagnlbpndldfeaa.SLawCycles (Rnd rnd_first rnd_next now_liveT time_liveT)
/-- Two machine's times that share nothing. -/
structure Apart (N : Nat) (pa pb : Pl) : Prop where
  a1 : pa.gs < N
  a2 : pa.gc < N
  a3 : pa.gp < N
  a4 : pa.hi ≤ N
  b0 : N ≤ pb.lo
  b1 : pb.lo ≤ pb.hi
  b2 : pb.hi ≤ pb.gs
  b3 : pb.hi ≤ pb.gc
  b4 : pb.hi ≤ pb.gp
variable {w w' : World} {pa pb : Pl} {N : Nat} {M G : Int} {l : List S45}
theorem raw_a {t a win maj last : Int} {b o ins : Bool} (s : Apart N pa pb) (h : Raw w pa M G l t b a o ins win maj last) (hm : Moves w w' (S3 pb)) : Raw w' pa M G l t b a o ins win maj last := by
  obtain ⟨a1, a2, a3, a4, b0, b1, b2, b3, b4⟩ := s
  refine h.moves hm ?_ ?_ ?_ ?_
  · rintro (e | e | e) <;> omega
  · rintro (e | e | e) <;> omega
  · rintro (e | e | e) <;> omega
  · rintro k (e | e | e) <;> omega
theorem raw_b {t a win maj last : Int} {b o ins : Bool} (s : Apart N pa pb) (h : Raw w pb M G l t b a o ins win maj last) (hm : Moves w w' (S3 pa)) : Raw w' pb M G l t b a o ins win maj last := by
  obtain ⟨a1, a2, a3, a4, b0, b1, b2, b3, b4⟩ := s
  refine h.moves hm ?_ ?_ ?_ ?_
  · rintro (e | e | e) <;> omega
  · rintro (e | e | e) <;> omega
  · rintro (e | e | e) <;> omega
  · rintro k (e | e | e) <;> omega
theorem apart_of {w2 w3 : World} {last last' : Int} (ha : Outs w2 pa M G l last) (hb : Outs w3 pb M G l last') (hn : Newer w2 pb) : Apart w2.heap.size pa pb :=
  ⟨blk_lt ha.1, blk_lt ha.2.1, blk_lt ha.2.2.1, ha.2.2.2.1.1, hn.1, hn.2, hb.2.2.2.2.1, hb.2.2.2.2.2.1, hb.2.2.2.2.2.2⟩
theorem who_bd (x : Int) {n : Nat} (n0 : 0 < n) (n1 : n ≤ 32) : ∃ v : Int, wrap64 ((IntKind.u64.wrap x).tmod (n : Int)) = v ∧ 0 ≤ v ∧ v < n := ⟨_, rfl, by
  rw [u64w, Int.tmod_eq_emod_of_nonneg (by omega)]
  have h0 := Int.emod_nonneg (x % 18446744073709551616) (show (n : Int) ≠ 0 by omega)
  have h1 := Int.emod_lt_of_pos (x % 18446744073709551616) (show 0 < (n : Int) by omega)
  rw [w64 (by omega) (by omega)]
  omega⟩
set_option maxHeartbeats 6400000 in
set_option maxRecDepth 100000 in
theorem blind (x0 M G x3 x4 x5 : Int) (A6 A7 A8 : Option Addr) (n6 k6 k7 n8 k8 : Nat) (l : List S45) (who : Int) (A : Option Addr) (zs : List Int) (cz : Nat) (Aa : Option Addr) (za : List Int) (ca : Nat) (Ab : Option Addr) (zb : List Int) (cb : Nat) (w : World) (hr : Kd.C k45 w A7 l.length l) (hw : ∀ x ∈ l, (-9223372036854775808 ≤ x.f1 ∧ x.f1 < 9223372036854775808) ∧ (-9223372036854775808 ≤ x.f2 ∧ x.f2 < 9223372036854775808)) (hz : Aside0 ((Kd.int .i64).C w A zs.length zs)) (hza : Aside0 ((Kd.int .i64).C w Aa za.length za)) (hzb : Aside0 ((Kd.int .i64).C w Ab zb.length zb)) :
    Calls Try.prog 4 #[.agg #[Value.int IntKind.i64 x0, Value.int IntKind.i64 M, Value.int IntKind.i64 G, Value.int IntKind.i64 x3, Value.int IntKind.i64 x4, Value.int IntKind.i64 x5, Value.slice A6 n6 k6, Value.slice A7 l.length k7, Value.slice A8 n8 k8], .int .i64 who, .slice A zs.length cz, .slice Aa za.length ca, .slice Ab zb.length cb] w fun e w' => e = .returned (.bool true) ∧ Below w.heap.size w w' := by
  have HR := Aside0.mk hr
  have HW := Aside0.mk hw
  clear hr hw
  go_enter Try.func4, Try.ntmps4
  go_wp2_with fail
  have b1 : Aside0 ((w.alloc (Obj.cells #[Value.int IntKind.i64 x0, Value.int IntKind.i64 M, Value.int IntKind.i64 G, Value.int IntKind.i64 x3, Value.int IntKind.i64 x4, Value.int IntKind.i64 x5, Value.slice A6 n6 k6, Value.slice A7 l.length k7, Value.slice A8 n8 k8] 26)).heap[w.heap.size]? = some (.cells #[Value.int IntKind.i64 x0, Value.int IntKind.i64 M, Value.int IntKind.i64 G, Value.int IntKind.i64 x3, Value.int IntKind.i64 x4, Value.int IntKind.i64 x5, Value.slice A6 n6 k6, Value.slice A7 l.length k7, Value.slice A8 n8 k8] 26 (0, 0))) := ⟨heap_alloc_new w _⟩
  have b2 : Aside0 (Below w.heap.size w (w.alloc (Obj.cells #[Value.int IntKind.i64 x0, Value.int IntKind.i64 M, Value.int IntKind.i64 G, Value.int IntKind.i64 x3, Value.int IntKind.i64 x4, Value.int IntKind.i64 x5, Value.slice A6 n6 k6, Value.slice A7 l.length k7, Value.slice A8 n8 k8] 26))) := ⟨below_alloc (Below.refl _ _) _⟩
  generalize w.alloc (Obj.cells #[Value.int IntKind.i64 x0, Value.int IntKind.i64 M, Value.int IntKind.i64 G, Value.int IntKind.i64 x3, Value.int IntKind.i64 x4, Value.int IntKind.i64 x5, Value.slice A6 n6 k6, Value.slice A7 l.length k7, Value.slice A8 n8 k8] 26) = wa at *
  refine (works_calls wa).mono ?_
  rintro e w1 ⟨rfl, hB⟩
  have hbr : w1.heap[w.heap.size]? = _ := (hB.block w.heap.size (blk_lt b1.out)).trans b1.out
  have B1 := Aside0.mk hbr
  have c0 := (blk_cell hbr 0).trans (show _ = some (Value.int IntKind.i64 x0) from rfl); have c1 := (blk_cell hbr 1).trans (show _ = some (Value.int IntKind.i64 M) from rfl); have c2 := (blk_cell hbr 2).trans (show _ = some (Value.int IntKind.i64 G) from rfl); have c3 := (blk_cell hbr 3).trans (show _ = some (Value.int IntKind.i64 x3) from rfl); have c4 := (blk_cell hbr 4).trans (show _ = some (Value.int IntKind.i64 x4) from rfl); have c5 := (blk_cell hbr 5).trans (show _ = some (Value.int IntKind.i64 x5) from rfl); have c6 := (blk_cell hbr 6).trans (show _ = some (Value.slice A6 n6 k6) from rfl); have c7 := (blk_cell hbr 7).trans (show _ = some (Value.slice A7 l.length k7) from rfl); have c8 := (blk_cell hbr 8).trans (show _ = some (Value.slice A8 n8 k8) from rfl)
  have HB := Aside0.mk (below_step b2.out hB)
  have HC1 := Aside0.mk (Kd.C_below HR.out HB.out)
  clear hbr hB b1 b2
  go_wp2_with fail
  refine (new_calls x0 M G x3 x4 x5 A6 A7 A8 n6 k6 k7 n8 k8 l _ HC1.out HW.out).mono ?_
  rintro e w2 ⟨hB, h⟩
  have HB2 := Aside0.mk hB
  rcases h with ⟨hne, rfl⟩ | ⟨h0, pa, rfl, hg1, hg2, hR⟩
  · have hbr2 : w2.heap[w.heap.size]? = _ := (hB.block w.heap.size (blk_lt B1.out)).trans B1.out
    have HNE := Aside0.mk hne
    have HC2 := Aside0.mk (Kd.C_below HC1.out hB)
    clear hB hne c0 c1 c2 c3 c4 c5 c6 c7 c8
    have hbr := hbr2
    have c0 := (blk_cell hbr 0).trans (show _ = some (Value.int IntKind.i64 x0) from rfl); have c1 := (blk_cell hbr 1).trans (show _ = some (Value.int IntKind.i64 M) from rfl); have c2 := (blk_cell hbr 2).trans (show _ = some (Value.int IntKind.i64 G) from rfl); have c3 := (blk_cell hbr 3).trans (show _ = some (Value.int IntKind.i64 x3) from rfl); have c4 := (blk_cell hbr 4).trans (show _ = some (Value.int IntKind.i64 x4) from rfl); have c5 := (blk_cell hbr 5).trans (show _ = some (Value.int IntKind.i64 x5) from rfl); have c6 := (blk_cell hbr 6).trans (show _ = some (Value.slice A6 n6 k6) from rfl); have c7 := (blk_cell hbr 7).trans (show _ = some (Value.slice A7 l.length k7) from rfl); have c8 := (blk_cell hbr 8).trans (show _ = some (Value.slice A8 n8 k8) from rfl)
    clear hbr hbr2
    generalize hE : newE M G l = E at *
    go_wp2_with fail
    refine (new_calls x0 M G x3 x4 x5 A6 A7 A8 n6 k6 k7 n8 k8 l _ HC2.out HW.out).mono ?_
    rintro e w3 ⟨hB, h⟩
    rcases h with ⟨hne, rfl⟩ | ⟨h0, pb, rfl, hg1, hg2, hR⟩
    · have HB3 := Aside0.mk (below_step HB2.out hB)
      rw [hE]
      have h1 : (E == 0) = false := beq_eq_false_iff_ne.2 HNE.out
      have h2 : (E != 0) = true := bne_iff_ne.2 HNE.out
      clear hE hne hB
      go_wp2_with fail
      go_ret
      exact ⟨rfl, below_step HB.out HB3.out⟩
    · exact absurd (hE.symm.trans h0) HNE.out
  have hE := h0
  clear h0
  have hbr : w2.heap[w.heap.size]? = _ := (hB.block w.heap.size (blk_lt B1.out)).trans B1.out
  have HC2 := Aside0.mk (Kd.C_below HC1.out hB)
  clear c0 c1 c2 c3 c4 c5 c6 c7 c8
  have c0 := (blk_cell hbr 0).trans (show _ = some (Value.int IntKind.i64 x0) from rfl); have c1 := (blk_cell hbr 1).trans (show _ = some (Value.int IntKind.i64 M) from rfl); have c2 := (blk_cell hbr 2).trans (show _ = some (Value.int IntKind.i64 G) from rfl); have c3 := (blk_cell hbr 3).trans (show _ = some (Value.int IntKind.i64 x3) from rfl); have c4 := (blk_cell hbr 4).trans (show _ = some (Value.int IntKind.i64 x4) from rfl); have c5 := (blk_cell hbr 5).trans (show _ = some (Value.int IntKind.i64 x5) from rfl); have c6 := (blk_cell hbr 6).trans (show _ = some (Value.slice A6 n6 k6) from rfl); have c7 := (blk_cell hbr 7).trans (show _ = some (Value.slice A7 l.length k7) from rfl); have c8 := (blk_cell hbr 8).trans (show _ = some (Value.slice A8 n8 k8) from rfl)
  have HNa : Aside0 (Newer w1 pa) := ⟨hg1, hg2⟩
  have HOa := Aside0.mk (show Outs w2 pa M G l 0 from hR)
  have HF := Aside0.mk (fit_of hE).1
  have HD := Aside0.mk (fit_of hE).2
  have HG := Aside0.mk (new_G hE)
  have HEE := Aside0.mk hE
  have BC2 := Aside0.mk hbr
  clear hR hB hg1 hg2 hE hbr
  go_wp2_with fail
  refine (new_calls x0 M G x3 x4 x5 A6 A7 A8 n6 k6 k7 n8 k8 l _ HC2.out HW.out).mono ?_
  rintro e w3 ⟨hB, h⟩
  rcases h with ⟨hne, rfl⟩ | ⟨h0, pb, rfl, hg1, hg2, hR⟩
  · exact absurd HEE.out hne
  have HB3 := Aside0.mk (below_step HB2.out hB)
  have HNb : Aside0 (Newer w1 pb) := ⟨Nat.le_trans HB2.out.size hg1, hg2⟩
  have HOb := Aside0.mk (show Outs w3 pb M G l 0 from hR)
  have HAP := Aside0.mk (apart_of HOa.out HOb.out ⟨hg1, hg2⟩)
  have HOa := Aside0.mk (HOa.out.below hB)
  have BC := Aside0.mk ((hB.block w.heap.size (blk_lt BC2.out)).trans BC2.out)
  clear c0 c1 c2 c3 c4 c5 c6 c7 c8 h0 hR hB hg1 hg2 HEE BC2
  have c7 := (blk_cell BC.out 7).trans (show _ = some (Value.slice A7 l.length k7) from rfl)
  obtain ⟨M0, M1, hl, _⟩ := HF.out
  obtain ⟨G0, G1⟩ := HG.out
  by_cases hz0 : l.length = 0
  · have z1 : ((l.length : Int) == 0) = true := by simp [hz0]
    have z2 : (l.length == 0) = true := by simp [hz0]
    go_wp2_with fail
    go_ret
    exact ⟨rfl, below_step HB.out HB3.out⟩
  have z1 : ((l.length : Int) == 0) = false := beq_eq_false_iff_ne.2 (by omega)
  have z2 : (l.length == 0) = false := beq_eq_false_iff_ne.2 hz0
  obtain ⟨v, hv, v0, v1⟩ := who_bd who (show 0 < l.length by omega) hl
  have HRn : Aside0 (Rnd M l 0 0 0 0) := ⟨rnd_first HF.out HD.out (by omega)⟩
  have HZ1 := Aside0.mk (Kd.C_below hz.out HB.out)
  have HZa := Aside0.mk (Kd.C_below hza.out HB.out)
  have HZb := Aside0.mk (Kd.C_below hzb.out HB.out)
  go_wp2_with fail
  rw [hv]
  clear c7 BC z1 z2 hv
  go_loopw [16] (fun sk wr => ∃ (jj i K : Nat) (last : Int), sk = .int .i64 K ∧ K ≤ 40 ∧ Aside0 (Rnd M l jj i K last) ∧ Aside0 (Outs wr pa M G l last) ∧ Aside0 (Outs wr pb M G l last) ∧ Aside0 (Below w1.heap.size w1 wr)) (fun sk _ => 40 - (intOf sk).toNat)
  case atStart => exact ⟨0, 0, 0, 0, rfl, by omega, HRn, HOa, HOb, HB3⟩
  case round =>
    clear HRn HOa HOb HB3
    obtain ⟨jj, i, K, last, rfl, hK40, HRn, HOa, HOb, HBr⟩ := hrel
    by_cases hlt : K < 40
    · have hil := HRn.out.hi
      have hjK := HRn.out.hj
      have HNE := Aside0.mk (rnd_next HRn.out HF.out HD.out (by omega))
      have WW := Aside0.mk (win_of (G := G) HF.out HD.out (show (0 : Int) ≤ (jj : Int) by omega) (by omega) hil G0 G1)
      have HNX := Aside0.mk HRn.out.inv.1
      have hls := HRn.out.inv.2
      have hl0 := HRn.out.l0
      generalize (jj : Int) * M + (gd l i).f1 = s at *
      generalize (gd l i).f2 = y at *
      generalize max 0 (y - 40 - G) = B at *
      generalize s + min 40 y = bg at *
      have d1 : decide ((K : Int) < 40) = true := decide_eq_true (by omega)
      clear HRn
      go_wp2_with fail
      refine (enter_live WW.out HOa.out HNX.out hl0 hls).mono ?_
      rintro e w4 ⟨rfl, hI, hM⟩
      have HB4 := Aside0.mk (HOa.out.newer HNa.out HBr.out hM)
      have HIa := Aside0.mk hI
      have HOb4 : Aside0 (Outs w4 pb M G l last) := ⟨raw_b HAP.out HOb.out hM⟩
      clear hI hM HOa HOb HBr
      go_wp2_with fail
      refine (enter_live WW.out HOb4.out HNX.out hl0 hls).mono ?_
      rintro e w5 ⟨rfl, hI, hM⟩
      have HB5 := Aside0.mk (HOb4.out.newer HNb.out HB4.out hM)
      have HIb := Aside0.mk hI
      have HIa5 : Aside0 (Ins w5 pa M G l jj i bg B 0 last) := ⟨raw_a HAP.out HIa.out hM⟩
      have ca0 := clk_live HIa5.out
      have cb0 := clk_live hI
      clear hI hM HOb4 HB4 HIa hls hl0 HNX
      go_upto_region 13 with fail
      go_cut [127] (fun sx wx => sx = .bool false ∧ ∃ m, wx = w5.drewN m)
      case first =>
        as_aux_lemma =>
          go_quiet ((first | (go_at_call 10; with_reducible exact Calls.quiet_of_same (now_live0 (HIa5.out.drewN _))) | (go_at_call 10; with_reducible exact Calls.quiet_of_same (now_live0 (HIb.out.drewN _)))))
          go_wp2_with fail
          go_meet
          exact ⟨rfl, _, rfl⟩
      case rest =>
        obtain ⟨rfl, m, hw⟩ := hcut
        have HI6a : Aside0 (Ins wc pa M G l jj i bg B 0 last) := ⟨by rw [hw]; exact HIa5.out.drewN m⟩
        have HI6b : Aside0 (Ins wc pb M G l jj i bg B 0 last) := ⟨by rw [hw]; exact HIb.out.drewN m⟩
        have HB6 : Aside0 (Below w1.heap.size w1 wc) := ⟨by rw [hw]; exact pw_below_drewN HB5.out m⟩
        clear hw ca0 cb0 HIa5 HIb HB5
        generalize wc = w6 at *
        go_upto_if 130 with fail
        generalize ((i : Int) == v) = qb
        go_cut [] (fun wx => ∃ ua ub : Int, Aside0 (Use y ua) ∧ Aside0 (Use y ub) ∧ Aside0 (Ins wx pa M G l jj i bg B ua last) ∧ Aside0 (Ins wx pb M G l jj i bg B ub last) ∧ Aside0 (Below w1.heap.size w1 wx))
        case first =>
          as_aux_lemma =>
            have HU0 : Aside0 (Use y 0) := ⟨⟨by omega, by omega⟩⟩
            have BC6 := Aside0.mk ((HB6.out.block w.heap.size (blk_lt B1.out)).trans B1.out)
            have c2 := (blk_cell BC6.out 2).trans (show _ = some (Value.int IntKind.i64 G) from rfl)
            cases qb
            · go_wp2_with fail
              refine (idles_calls WW HI6a HU0 HNa HB6 Aa za ca HZa K).mono ?_
              rintro e w7 ⟨rfl, ua, hu, hI, hM⟩
              have HUa := Aside0.mk hu
              have HI7a := Aside0.mk hI
              have HB7 := Aside0.mk (HI6a.out.newer HNa.out HB6.out hM)
              have HI7b : Aside0 (Ins w7 pb M G l jj i bg B 0 last) := ⟨raw_b HAP.out HI6b.out hM⟩
              have BC7 := Aside0.mk ((HB7.out.block w.heap.size (blk_lt B1.out)).trans B1.out)
              clear hu hI hM c2 BC6 HI6a HI6b HB6
              have c2 := (blk_cell BC7.out 2).trans (show _ = some (Value.int IntKind.i64 G) from rfl)
              go_wp2_with fail
              refine (idles_calls WW HI7b HU0 HNb HB7 Ab zb cb HZb K).mono ?_
              rintro e w8 ⟨rfl, ub, hu, hI, hM⟩
              have HUb := Aside0.mk hu
              have HI8b := Aside0.mk hI
              have HB8 := Aside0.mk (HI7b.out.newer HNb.out HB7.out hM)
              have HI8a : Aside0 (Ins w8 pa M G l jj i bg B ua last) := ⟨raw_a HAP.out HI7a.out hM⟩
              clear hu hI hM c2 BC7 HI7a HI7b HB7
              go_wp2_with fail
              go_meet
              exact ⟨ua, ub, HUa, HUb, HI8a, HI8b, HB8⟩
            · go_wp2_with fail
              clear c2 BC6
              go_loopw [23, 24] (fun sj _ wr => ∃ (jn : Nat) (u : Int), sj = .int .i64 jn ∧ jn ≤ 20 ∧ Aside0 (Use y u) ∧ Aside0 (Ins wr pa M G l jj i bg B u last) ∧ Aside0 (Ins wr pb M G l jj i bg B u last) ∧ Aside0 (Below w1.heap.size w1 wr)) (fun sj _ _ => 20 - (intOf sj).toNat)
              case atStart => exact ⟨0, 0, rfl, by omega, HU0, HI6a, HI6b, HB6⟩
              case round =>
                clear HI6a HI6b HB6
                obtain ⟨jn, u, rfl, hjn, HU, HIa, HIb, HB7⟩ := hrel
                by_cases hj : jn < zs.length ∧ jn < 20
                · obtain ⟨hj1, hj2⟩ := hj
                  have BC7 := Aside0.mk ((HB7.out.block w.heap.size (blk_lt B1.out)).trans B1.out)
                  have c2 := (blk_cell BC7.out 2).trans (show _ = some (Value.int IntKind.i64 G) from rfl)
                  obtain ⟨ad3, hA, hx⟩ := Kd.at_int (Kd.C_below HZ1.out HB7.out) (jn : Int) (by omega) (by omega)
                  rw [Int.toNat_natCast] at hx
                  subst hA
                  generalize rd zs (jn : Int) = x at *
                  obtain ⟨q, q2, q3, hq⟩ := red_bd x G0 G1
                  have k0 : decide ((jn : Int) < (zs.length : Int)) = true := decide_eq_true (by omega)
                  have k00 : decide (jn < zs.length) = true := decide_eq_true hj1
                  have k20 : decide ((jn : Int) < 20) = true := decide_eq_true (by omega)
                  have k1 : decide ((zs.length : Int) ≤ (jn : Int)) = false := decide_eq_false (by omega)
                  have k2 : decide (zs.length ≤ jn) = false := decide_eq_false (by omega)
                  have k3 : decide ((jn : Int) < 0) = false := decide_eq_false (by omega)
                  have HQ := Aside0.mk hq
                  clear hq
                  generalize wr = w7 at *
                  go_upto_region 19 with fail
                  go_cut [24] (fun sx wx => sx = .int .i64 q ∧ ∃ m, wx = w7.drewN m)
                  case first =>
                    as_aux_lemma =>
                      have e2 : IntKind.i64.wrap (G + 1) = G + 1 := (i64_w _).trans (w64 (by omega) (by omega))
                      have e3 : IntKind.u64.wrap (G + 1) = G + 1 := (u64w _).trans (by omega)
                      have e4 : IntKind.i64.wrap ((IntKind.u64.wrap x).tmod (G + 1)) = q := (i64_w _).trans HQ.out
                      go_quiet (fail)
                      go_wp2_with fail
                      go_meet
                      exact ⟨rfl, _, rfl⟩
                  case rest =>
                    obtain ⟨rfl, m, hw⟩ := hcut
                    have HI8a : Aside0 (Ins wc pa M G l jj i bg B u last) := ⟨by rw [hw]; exact HIa.out.drewN m⟩
                    have HI8b : Aside0 (Ins wc pb M G l jj i bg B u last) := ⟨by rw [hw]; exact HIb.out.drewN m⟩
                    have HB8 : Aside0 (Below w1.heap.size w1 wc) := ⟨by rw [hw]; exact pw_below_drewN HB7.out m⟩
                    clear hw c2 BC7 hx HIa HIb HB7 k0 k00 k20 k1 k2 k3
                    generalize wc = w8 at *
                    obtain ⟨mb, hmb⟩ : ∃ b, decide (u < B) = b := ⟨_, rfl⟩
                    obtain ⟨T, hT⟩ : ∃ T, bg + u = T := ⟨_, rfl⟩
                    obtain ⟨E2, hE2⟩ : ∃ E2, spE B u G q = E2 := ⟨_, rfl⟩
                    have HMB := Aside0.mk hmb
                    have HT := Aside0.mk hT
                    have HE2 := Aside0.mk hE2
                    clear hmb hT hE2
                    go_wp2_with fail
                    refine (may_live HI8a.out).mono ?_
                    rw [HMB.out]
                    rintro e w9 ⟨rfl, m1, hw⟩
                    have HI9a : Aside0 (Ins w9 pa M G l jj i bg B u last) := ⟨by rw [hw]; exact HI8a.out.drewN m1⟩
                    have HI9b : Aside0 (Ins w9 pb M G l jj i bg B u last) := ⟨by rw [hw]; exact HI8b.out.drewN m1⟩
                    have HB9 : Aside0 (Below w1.heap.size w1 w9) := ⟨by rw [hw]; exact pw_below_drewN HB8.out m1⟩
                    clear hw HI8a HI8b HB8
                    go_wp2_with fail
                    refine (may_live HI9b.out).mono ?_
                    rw [HMB.out]
                    rintro e w10 ⟨rfl, m2, hw⟩
                    have HI10a : Aside0 (Ins w10 pa M G l jj i bg B u last) := ⟨by rw [hw]; exact HI9a.out.drewN m2⟩
                    have HI10b : Aside0 (Ins w10 pb M G l jj i bg B u last) := ⟨by rw [hw]; exact HI9b.out.drewN m2⟩
                    have HB10 : Aside0 (Below w1.heap.size w1 w10) := ⟨by rw [hw]; exact pw_below_drewN HB9.out m2⟩
                    clear hw HI9a HI9b HB9
                    go_wp2_with fail
                    refine (time_liveT HI10a.out HT.out).mono ?_
                    rintro e w11 ⟨rfl, rfl⟩
                    go_wp2_with fail
                    refine (time_liveT HI10b.out HT.out).mono ?_
                    rintro e w11 ⟨rfl, rfl⟩
                    go_wp2_with fail
                    refine (spend_live WW.out HI10a.out HU.out q).mono ?_
                    rw [HE2.out]
                    rintro e w12 ⟨rfl, hI, hM⟩
                    have HB12 := Aside0.mk (HI10a.out.newer HNa.out HB10.out hM)
                    have HI12a := Aside0.mk hI
                    have HI12b : Aside0 (Ins w12 pb M G l jj i bg B u last) := ⟨raw_b HAP.out HI10b.out hM⟩
                    clear hI hM HI10a HI10b HB10
                    go_wp2_with fail
                    refine (spend_live WW.out HI12b.out HU.out q).mono ?_
                    rw [HE2.out]
                    rintro e w13 ⟨rfl, hI, hM⟩
                    have HB13 := Aside0.mk (HI12b.out.newer HNb.out HB12.out hM)
                    have HI13b := Aside0.mk hI
                    have HI13a : Aside0 (Ins w13 pa M G l jj i bg B (spU B u G q) last) := ⟨raw_a HAP.out HI12a.out hM⟩
                    have HU2 := Aside0.mk (use_sp WW.out HU.out q)
                    clear hI hM HI12a HI12b HB12
                    go_wp2_with fail
                    go_roundw
                    case rel => first | exact ⟨jn + 1, _, by go_num, by omega, HU2, HI13a, HI13b, HB13⟩ | (repeat apply Exists.intro; exact ⟨⟨jn + 1, _, by go_num, by omega, HU2, HI13a, HI13b, HB13⟩, rfl⟩) | trace_state
                    case measure =>
                      simp [intOf]
                      omega
                · by_cases hj1 : jn < zs.length
                  · have e20 : jn = 20 := by omega
                    subst e20
                    have k0 : decide (((20 : Nat) : Int) < (zs.length : Int)) = true := decide_eq_true (by omega)
                    have k00 : decide ((20 : Int) < (zs.length : Int)) = true := decide_eq_true (by omega)
                    go_wp2_with fail
                    go_meet
                    exact ⟨u, u, HU, HU, HIa, HIb, HB7⟩
                  · have k0 : decide ((jn : Int) < (zs.length : Int)) = false := decide_eq_false (by omega)
                    have k00 : decide (jn < zs.length) = false := decide_eq_false hj1
                    go_wp2_with fail
                    go_meet
                    exact ⟨u, u, HU, HU, HIa, HIb, HB7⟩
        case rest =>
          obtain ⟨ua, ub, HUa, HUb, HIa, HIb, HB7⟩ := hcut
          clear HI6a HI6b HB6
          generalize wc = w7 at *
          go_wp2_with fail
          refine (leave_live WW.out HIa.out HUa.out).mono ?_
          rintro e w8 ⟨rfl, hO, hM⟩
          have HB8 := Aside0.mk (HIa.out.newer HNa.out HB7.out hM)
          have HOa := Aside0.mk hO
          have HI8b : Aside0 (Ins w8 pb M G l jj i bg B ub last) := ⟨raw_b HAP.out HIb.out hM⟩
          clear hO hM HIa HIb HB7
          go_wp2_with fail
          refine (leave_live WW.out HI8b.out HUb.out).mono ?_
          rintro e w9 ⟨rfl, hO, hM⟩
          have HB9 := Aside0.mk (HI8b.out.newer HNb.out HB8.out hM)
          have HOb := Aside0.mk hO
          have HOa9 : Aside0 (Outs w9 pa M G l (s + y)) := ⟨raw_a HAP.out HOa.out hM⟩
          have ca0 := clk_out HOa9.out
          have cb0 := clk_out hO
          clear hO hM HOa HI8b HB8
          go_upto_region 26 with fail
          go_cut [199] (fun sx wx => sx = .bool false ∧ ∃ m, wx = w9.drewN m)
          case first =>
            as_aux_lemma =>
              go_quiet ((first | (go_at_call 10; with_reducible exact Calls.quiet_of_same (now_out (HOa9.out.drewN _))) | (go_at_call 10; with_reducible exact Calls.quiet_of_same (now_out (HOb.out.drewN _)))))
              go_wp2_with fail
              go_meet
              exact ⟨rfl, _, rfl⟩
          case rest =>
            obtain ⟨rfl, m, hw⟩ := hcut
            have HO10a : Aside0 (Outs wc pa M G l (s + y)) := ⟨by rw [hw]; exact HOa9.out.drewN m⟩
            have HO10b : Aside0 (Outs wc pb M G l (s + y)) := ⟨by rw [hw]; exact HOb.out.drewN m⟩
            have HB10 : Aside0 (Below w1.heap.size w1 wc) := ⟨by rw [hw]; exact pw_below_drewN HB9.out m⟩
            clear hw ca0 cb0 HOa9 HOb HB9
            go_wp2_with fail
            obtain ⟨jj', i', hR⟩ := HNE.out
            go_roundw
            case rel => exact ⟨jj', i', K + 1, s + y, by go_num, by omega, ⟨hR⟩, HO10a, HO10b, HB10⟩
            case measure =>
              simp [intOf]
              omega
    · have d1 : decide ((K : Int) < 40) = false := decide_eq_false (by omega)
      go_wp2_with fail
      go_ret
      exact ⟨rfl, below_step HB.out HBr.out⟩
theorem walk (x0 M G x3 x4 x5 : Int) (A6 : Option Addr) (n6 k6 : Nat) (A7 : Option Addr) (n7 k7 : Nat) (X : Nat → Nat → Int) (A8 : Option Addr) (n8 k8 : Nat) (who : Int) (a2 : Option Addr) (len2 cap2 : Nat) (z2 : List Int) (a3 : Option Addr) (len3 cap3 : Nat) (z3 : List Int) (a4 : Option Addr) (len4 cap4 : Nat) (z4 : List Int) (w : World) (h : AidRows.Recs w A7 n7 [.i64, .i64, .i64] X) (hn : n7 * 24 ≤ 140737488351232)
    (_ : (Lit.int .i64 who).wf = true)
    (w2 : (a2 = none ∧ len2 = 0 ∧ cap2 = 0 ∧ z2 = []) ∨ ∃ x, a2 = some x ∧ len2 ≤ cap2 ∧ cap2 ≤ maxLen ∧ z2.length = cap2 ∧ (∀ i, i < z2.length → w.cell? (x.add i) = some (.int .i64 (z2.getD i 0))) ∧ ∀ n ∈ z2, (Lit.int .i64 n).wf = true) (_ : len2 * 8 ≤ 140737488351232)
    (w3 : (a3 = none ∧ len3 = 0 ∧ cap3 = 0 ∧ z3 = []) ∨ ∃ x, a3 = some x ∧ len3 ≤ cap3 ∧ cap3 ≤ maxLen ∧ z3.length = cap3 ∧ (∀ i, i < z3.length → w.cell? (x.add i) = some (.int .i64 (z3.getD i 0))) ∧ ∀ n ∈ z3, (Lit.int .i64 n).wf = true) (_ : len3 * 8 ≤ 140737488351232)
    (w4 : (a4 = none ∧ len4 = 0 ∧ cap4 = 0 ∧ z4 = []) ∨ ∃ x, a4 = some x ∧ len4 ≤ cap4 ∧ cap4 ≤ maxLen ∧ z4.length = cap4 ∧ (∀ i, i < z4.length → w.cell? (x.add i) = some (.int .i64 (z4.getD i 0))) ∧ ∀ n ∈ z4, (Lit.int .i64 n).wf = true) (_ : len4 * 8 ≤ 140737488351232) :
    Calls Try.prog 4 #[.agg #[.int .i64 x0, .int .i64 M, .int .i64 G, .int .i64 x3, .int .i64 x4, .int .i64 x5, .slice A6 n6 k6, .slice A7 n7 k7, .slice A8 n8 k8], .int .i64 who, .slice a2 len2 cap2, .slice a3 len3 cap3, .slice a4 len4 cap4] w fun e w' => e = .returned (.bool true) ∧ Below w.heap.size w w' := by
  obtain ⟨zs, rfl, hr, _, _, _⟩ := ReadsInt.ofRowC w2
  obtain ⟨za, rfl, hra, _, _, _⟩ := ReadsInt.ofRowC w3
  obtain ⟨zb, rfl, hrb, _, _, _⟩ := ReadsInt.ofRowC w4
  have := blind x0 M G x3 x4 x5 A6 A7 A8 n6 k6 k7 n8 k8 (PlanRec.wins n7 X) who a2 zs cap2 a3 za cap3 a4 zb cap4 w (PlanRec.wins_row h hn) (PlanRec.wins_bound h) ⟨Kd.C_of_reads (d := (0 : Int)) (h1 := fun _ => rfl) hr⟩ ⟨Kd.C_of_reads (d := (0 : Int)) (h1 := fun _ => rfl) hra⟩ ⟨Kd.C_of_reads (d := (0 : Int)) (h1 := fun _ => rfl) hrb⟩
  rwa [PlanRec.wins_length] at this
end Go.Proofs.Ytagnlbpndldfeaa.SLawBlind
