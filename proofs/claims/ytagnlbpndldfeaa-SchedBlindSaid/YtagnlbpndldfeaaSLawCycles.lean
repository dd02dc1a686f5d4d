/- Each window begins and ends at its very cycle: the walk of the law. -/
import Derived.Test.YtagnlbpndldfeaaSWorks
import Derived.Test.YtagnlbpndldfeaaPlanRec
namespace Go.Proofs.Ytagnlbpndldfeaa.SLawCycles
open Go.RowKit Go.Proofs.Ytagnlbpndldfeaa.PSchedPlays Go.Proofs.YtagnlbpndldfeaaW.PrintWords Go.Proofs.YtagnlbpndldfeaaW.PrintLast Go.Proofs.YtagnlbpndldfeaaW.PrintMore Go.Proofs.Ytagnlbpndldfeaa.Aid Go.Proofs.Ytagnlbpndldfeaa.PlanBase Go.Proofs.Ytagnlbpndldfeaa.SPlanAt Go.Proofs.Ytagnlbpndldfeaa.SPlanStart Go.Proofs.Ytagnlbpndldfeaa.SPlanCalls Go.Proofs.Ytagnlbpndldfeaa.SPlanBudget Go.Proofs.Ytagnlbpndldfeaa.SBase Go.Proofs.Ytagnlbpndldfeaa.SState Go.Proofs.Ytagnlbpndldfeaa.SLeave Go.Proofs.Ytagnlbpndldfeaa.SEnter Go.Proofs.Ytagnlbpndldfeaa.SCycPure Go.Proofs.Ytagnlbpndldfeaa.SLive Go.Proofs.Ytagnlbpndldfeaa.SNew Go.Proofs.Ytagnlbpndldfeaa.SWorks
set_option linter.unusedVariables false
set_option linter.unusedSimpArgs false
attribute [local go_sem] min2_int max2_int min_two max_two
/-- Where the rounds stand. -/
structure Rnd (M : Int) (l : List S45) (jj i K : Nat) (last : Int) : Prop where
  hi : i < l.length
  hj : jj ≤ K
  hK : K = jj * l.length + i
  inv : Inv M l jj last i
  l0 : 0 ≤ last
theorem rnd_first {M : Int} {l : List S45} (hF : Fit M l) (hO : Ord 0 l) (h : 0 < l.length) : Rnd M l 0 0 0 0 := by
  refine ⟨h, by omega, by simp, ?_, by omega⟩
  have := inv_first hF (j := 0) (by omega) (by omega) h
  rw [Int.zero_mul] at this
  exact this
theorem rnd_next {M : Int} {l : List S45} {jj i K : Nat} {last : Int} (h : Rnd M l jj i K last) (hF : Fit M l) (hO : Ord 0 l) (hj : K < 100) : ∃ jj' i', Rnd M l jj' i' (K + 1) (jj * M + (gd l i).f1 + (gd l i).f2) := by
  have h2 := h.hj
  have hb := big hF (show (0 : Int) ≤ (jj : Int) by omega) (by omega)
  have hw := hF.2.2.2 _ (gd_mem h.hi)
  have hi := h.hi
  have hK := h.hK
  by_cases hn : i + 1 < l.length
  · exact ⟨jj, i + 1, hn, by omega, by omega, end_next hF hO (by omega) (by omega) hn, by omega⟩
  · have hn2 : i + 1 = l.length := by omega
    refine ⟨jj + 1, 0, by omega, by omega, ?_, ?_, by omega⟩
    · rw [Nat.add_mul, Nat.one_mul]
      omega
    · have := end_wrap hF hO (show (0 : Int) ≤ (jj : Int) by omega) (by omega) hn2 (by omega)
      rw [Int.natCast_add]
      exact this
theorem rnd_div {M : Int} {l : List S45} {jj i K : Nat} {last : Int} (h : Rnd M l jj i K last) : (K : Int).tmod (l.length : Int) = i ∧ (K : Int).tdiv (l.length : Int) = jj ∧ (K : Int) % (l.length : Int) = i ∧ (K : Int) / (l.length : Int) = jj := by
  have hi := h.hi
  have a : K % l.length = i := by
    rw [h.hK, Nat.add_comm, Nat.add_mul_mod_self_right]
    exact Nat.mod_eq_of_lt hi
  have b : K / l.length = jj := by
    rw [h.hK, Nat.add_comm, Nat.add_mul_div_right _ _ (by omega), Nat.div_eq_of_lt hi, Nat.zero_add]
  have c : (K : Int) % (l.length : Int) = i := by rw [← Int.natCast_emod, a]
  have d : (K : Int) / (l.length : Int) = jj := by rw [← Int.natCast_ediv, b]
  exact ⟨by rw [Int.tmod_eq_emod_of_nonneg (by omega), c], by rw [Int.tdiv_eq_ediv_of_nonneg (by omega), d], c, d⟩
theorem now_liveT {w : World} {p : Pl} {M G : Int} {l : List S45} {j : Int} {i : Nat} {bg B u last T : Int} (h : Ins w p M G l j i bg B u last) (hT : bg + u = T) : Calls Try.prog 10 #[.pointer (some ⟨p.gc, 0, none⟩)] w fun e w' => e = .returned (.int .i64 T) ∧ w' = w := by
  rw [← hT]
  exact now_live h
theorem time_liveT {w : World} {p : Pl} {M G : Int} {l : List S45} {j : Int} {i : Nat} {bg B u last T : Int} (h : Ins w p M G l j i bg B u last) (hT : bg + u = T) : Calls Try.prog 15 #[.pointer (some ⟨p.gs, 0, none⟩)] w fun e w' => e = .returned (.int .i64 T) ∧ w' = w := by
  rw [← hT]
  exact time_live h
set_option maxHeartbeats 6400000 in
set_option maxRecDepth 100000 in
theorem cycles (x0 M G x3 x4 x5 : Int) (A6 A7 A8 : Option Addr) (n6 k6 k7 n8 k8 : Nat) (l : List S45) (A : Option Addr) (zs : List Int) (cz : Nat) (A' : Option Addr) (bs : List Bool) (cb : Nat) (w : World) (hr : Kd.C k45 w A7 l.length l) (hw : ∀ x ∈ l, (-9223372036854775808 ≤ x.f1 ∧ x.f1 < 9223372036854775808) ∧ (-9223372036854775808 ≤ x.f2 ∧ x.f2 < 9223372036854775808)) (hz : Aside0 ((Kd.int .i64).C w A zs.length zs)) (hb : Aside0 (Kd.bool.C w A' bs.length bs)) :
    Calls Try.prog 5 #[.agg #[Value.int IntKind.i64 x0, Value.int IntKind.i64 M, Value.int IntKind.i64 G, Value.int IntKind.i64 x3, Value.int IntKind.i64 x4, Value.int IntKind.i64 x5, Value.slice A6 n6 k6, Value.slice A7 l.length k7, Value.slice A8 n8 k8], .slice A zs.length cz, .slice A' bs.length cb] w fun e w' => e = .returned (.bool true) ∧ Below w.heap.size w w' := by
  have HR := Aside0.mk hr
  have HW := Aside0.mk hw
  clear hr hw
  go_enter Try.func5, Try.ntmps5
  go_wp2_with fail
  have b1 : Aside0 ((w.alloc (Obj.cells #[Value.int IntKind.i64 x0, Value.int IntKind.i64 M, Value.int IntKind.i64 G, Value.int IntKind.i64 x3, Value.int IntKind.i64 x4, Value.int IntKind.i64 x5, Value.slice A6 n6 k6, Value.slice A7 l.length k7, Value.slice A8 n8 k8] 26)).heap[w.heap.size]? = some (.cells #[Value.int IntKind.i64 x0, Value.int IntKind.i64 M, Value.int IntKind.i64 G, Value.int IntKind.i64 x3, Value.int IntKind.i64 x4, Value.int IntKind.i64 x5, Value.slice A6 n6 k6, Value.slice A7 l.length k7, Value.slice A8 n8 k8] 26 (0, 0))) := ⟨heap_alloc_new w _⟩
  have b2 : Aside0 (Below w.heap.size w (w.alloc (Obj.cells #[Value.int IntKind.i64 x0, Value.int IntKind.i64 M, Value.int IntKind.i64 G, Value.int IntKind.i64 x3, Value.int IntKind.i64 x4, Value.int IntKind.i64 x5, Value.slice A6 n6 k6, Value.slice A7 l.length k7, Value.slice A8 n8 k8] 26))) := ⟨below_alloc (Below.refl _ _) _⟩
  generalize w.alloc (Obj.cells #[Value.int IntKind.i64 x0, Value.int IntKind.i64 M, Value.int IntKind.i64 G, Value.int IntKind.i64 x3, Value.int IntKind.i64 x4, Value.int IntKind.i64 x5, Value.slice A6 n6 k6, Value.slice A7 l.length k7, Value.slice A8 n8 k8] 26) = wa at *
  refine (works_calls wa).mono ?_
  rintro e w1 ⟨rfl, hB⟩
  have hbr : w1.heap[w.heap.size]? = _ := (hB.block w.heap.size (blk_lt b1.out)).trans b1.out
  have B1 := Aside0.mk hbr
  have c0 := (blk_cell hbr 0).trans (show _ = some (Value.int IntKind.i64 x0) from rfl); have c1 := (blk_cell hbr 1).trans (show _ = some (Value.int IntKind.i64 M) from rfl); have c2 := (blk_cell hbr 2).trans (show _ = some (Value.int IntKind.i64 G) from rfl); have c3 := (blk_cell hbr 3).trans (show _ = some (Value.int IntKind.i64 x3) from rfl); have c4 := (blk_cell hbr 4).trans (show _ = some (Value.int IntKind.i64 x4) from rfl); have c5 := (blk_cell hbr 5).trans (show _ = some (Value.int IntKind.i64 x5) from rfl); have c6 := (blk_cell hbr 6).trans (show _ = some (Value.slice A6 n6 k6) from rfl); have c7 := (blk_cell hbr 7).trans (show _ = some (Value.slice A7 l.length k7) from rfl); have c8 := (blk_cell hbr 8).trans (show _ = some (Value.slice A8 n8 k8) from rfl)
  have HB := Aside0.mk (below_step b2.out hB)
  have HC1 := Aside0.mk (Kd.C_below HR.out HB.out)
  clear hbr hB b1 b2
  go_wp2_with fail
  refine (new_calls x0 M G x3 x4 x5 A6 A7 A8 n6 k6 k7 n8 k8 l _ HC1.out HW.out).mono ?_
  rintro e w2 ⟨hB, h⟩
  have HB2 := Aside0.mk hB
  rcases h with ⟨hne, rfl⟩ | ⟨h0, p, rfl, hg1, hg2, hR⟩
  · clear hB
    generalize newE M G l = E at *
    have h1 : (E == 0) = false := beq_eq_false_iff_ne.2 hne
    have h2 : (E != 0) = true := by simp [hne]
    clear hne
    go_wp2_with fail
    go_ret
    exact ⟨rfl, below_step HB.out HB2.out⟩
  have hE := h0
  clear h0
  have BC := Aside0.mk ((hB.block w.heap.size (blk_lt B1.out)).trans B1.out)
  clear c0 c1 c2 c3 c4 c5 c6 c7 c8
  have HN1 : Aside0 (Newer w1 p) := ⟨hg1, hg2⟩
  have HO := Aside0.mk (show Outs w2 p M G l 0 from hR)
  have HF := Aside0.mk (fit_of hE).1
  have HD := Aside0.mk (fit_of hE).2
  have HG := Aside0.mk (new_G hE)
  clear hE hR hB hg1 hg2
  have c7 := (blk_cell BC.out 7).trans (show _ = some (Value.slice A7 l.length k7) from rfl)
  obtain ⟨M0, M1, hl, _⟩ := HF.out
  obtain ⟨G0, G1⟩ := HG.out
  by_cases hz0 : l.length = 0
  · have z1 : ((l.length : Int) == 0) = true := by simp [hz0]
    have z2 : (l.length == 0) = true := by simp [hz0]
    go_wp2_with fail
    go_ret
    exact ⟨rfl, below_step HB.out HB2.out⟩
  have z1 : ((l.length : Int) == 0) = false := beq_eq_false_iff_ne.2 (by omega)
  have z2 : (l.length == 0) = false := beq_eq_false_iff_ne.2 hz0
  have HRn : Aside0 (Rnd M l 0 0 0 0) := ⟨rnd_first HF.out HD.out (by omega)⟩
  have HZ1 := Aside0.mk (Kd.C_below hz.out HB.out)
  have HS1 := Aside0.mk (Kd.C_below hb.out HB.out)
  go_wp2_with fail
  clear c7 BC z1 z2
  go_loopw [9, 10] (fun sn sk wr => ∃ (jj i K nn : Nat) (last : Int), sn = .int .i64 nn ∧ sk = .int .i64 K ∧ K ≤ 60 ∧ nn ≤ 300 * K ∧ Aside0 (Rnd M l jj i K last) ∧ Aside0 (Outs wr p M G l last) ∧ Aside0 (Below w1.heap.size w1 wr)) (fun _ sk _ => 60 - (intOf sk).toNat)
  case atStart => exact ⟨0, 0, 0, 0, 0, rfl, rfl, by omega, by omega, HRn, HO, HB2⟩
  case round =>
    clear HRn HO HB2
    obtain ⟨jj, i, K, nn, last, rfl, rfl, hK60, hnn, HRn, HO, HBr⟩ := hrel
    by_cases hlt : K < 60
    · have hil := HRn.out.hi
      have hjK := HRn.out.hj
      obtain ⟨m1, m2, m3, m4⟩ := rnd_div HRn.out
      have BCr := Aside0.mk ((HBr.out.block w.heap.size (blk_lt B1.out)).trans B1.out)
      have c7 := (blk_cell BCr.out 7).trans (show _ = some (Value.slice A7 l.length k7) from rfl)
      have c1 := (blk_cell BCr.out 1).trans (show _ = some (Value.int IntKind.i64 M) from rfl)
      obtain ⟨ad, hA, hx0, hx1, hx2⟩ := at_T45 (Kd.C_below HC1.out HBr.out) (i : Int) (by omega) (by omega)
      rw [rd_gd, Int.toNat_natCast] at hx0 hx1 hx2
      subst hA
      have HNE := Aside0.mk (rnd_next HRn.out HF.out HD.out (by omega))
      have WW := Aside0.mk (win_of (G := G) HF.out HD.out (show (0 : Int) ≤ (jj : Int) by omega) (by omega) hil G0 G1)
      have HNX := Aside0.mk HRn.out.inv.1
      have hls := HRn.out.inv.2
      have hl0 := HRn.out.l0
      obtain ⟨P0, P1⟩ := big HF.out (show (0 : Int) ≤ (jj : Int) by omega) (by omega)
      obtain ⟨v0, v1, v2, v3⟩ := HF.out.2.2.2 _ (gd_mem hil)
      generalize (gd l i).f0 = y0 at *
      generalize (gd l i).f1 = z at *
      generalize (gd l i).f2 = y at *
      generalize hP : (jj : Int) * M = P at *
      generalize hs : P + z = s at *
      generalize hBB : max 0 (y - 40 - G) = B at *
      generalize hbg : s + min 40 y = bg at *
      have HP := Aside0.mk hP
      have Hs := Aside0.mk hs
      have HBB := Aside0.mk hBB
      have Hbg := Aside0.mk hbg
      have s0 : 0 ≤ s := by omega
      have s1 : s ≤ 33600000000000 := by omega
      have d1 : decide ((K : Int) < 60) = true := decide_eq_true (by omega)
      have d2 : decide ((l.length : Int) ≤ (i : Int)) = false := decide_eq_false (by omega)
      have d3 : decide (l.length ≤ i) = false := decide_eq_false (by omega)
      have d4 : decide ((i : Int) < 0) = false := decide_eq_false (by omega)
      have z1 : ((l.length : Int) == 0) = false := beq_eq_false_iff_ne.2 (by omega)
      have z2 : (l.length == 0) = false := beq_eq_false_iff_ne.2 hz0
      clear hP hs hBB hbg HRn
      go_upto_region 12 with fail
      have HGW : Aside0 ((wr.alloc (Obj.cells #[.int .i64 y0, .int .i64 z, .int .i64 y] 45)).heap[wr.heap.size]? = some (Obj.cells #[.int .i64 y0, .int .i64 z, .int .i64 y] 45 (0, 0))) := ⟨blk_new _ _⟩
      have HB3 : Aside0 (Below w1.heap.size w1 (wr.alloc (Obj.cells #[.int .i64 y0, .int .i64 z, .int .i64 y] 45))) := ⟨below_alloc HBr.out _⟩
      have HO3 : Aside0 (Outs (wr.alloc (Obj.cells #[.int .i64 y0, .int .i64 z, .int .i64 y] 45)) p M G l last) := ⟨HO.out.below (below_alloc (Below.refl _ _) _)⟩
      clear HO HBr BCr c7 c1 hx0 hx1 hx2
      generalize wr.alloc (Obj.cells #[.int .i64 y0, .int .i64 z, .int .i64 y] 45) = w3 at *
      generalize wr.heap.size = g at *
      have BC3 := Aside0.mk ((HB3.out.block w.heap.size (blk_lt B1.out)).trans B1.out)
      have c7 := (blk_cell BC3.out 7).trans (show _ = some (Value.slice (some ad) l.length k7) from rfl)
      have c1 := (blk_cell BC3.out 1).trans (show _ = some (Value.int IntKind.i64 M) from rfl)
      have g1 := (blk_cell HGW.out 1).trans (show _ = some (Value.int IntKind.i64 z) from rfl)
      have e1 : IntKind.i64.wrap ((jj : Int) * M) = P := (i64_w _).trans ((w64 (by have := HP.out; omega) (by have := HP.out; omega)).trans HP.out)
      have e2 : IntKind.i64.wrap (P + z) = s := (i64_w _).trans ((w64 (by omega) (by omega)).trans Hs.out)
      have e3 : IntKind.i64.wrap (jj : Int) = jj := (i64_w _).trans (w64 (by omega) (by omega))
      go_cut [13] (fun s13 wx => s13 = .int .i64 s ∧ ∃ m, wx = w3.drewN m)
      case first =>
        as_aux_lemma =>
          go_quiet (fail)
          go_wp2_with fail
          go_meet
          exact ⟨rfl, _, rfl⟩
      case rest =>
        obtain ⟨rfl, m, hw⟩ := hcut
        have HO4 : Aside0 (Outs wc p M G l last) := ⟨by rw [hw]; exact HO3.out.drewN m⟩
        have HB4 : Aside0 (Below w1.heap.size w1 wc) := ⟨by rw [hw]; exact pw_below_drewN HB3.out m⟩
        have HG4 : Aside0 (wc.heap[g]? = some (Obj.cells #[.int .i64 y0, .int .i64 z, .int .i64 y] 45 (0, 0))) := ⟨by rw [hw]; exact HGW.out⟩
        clear hw c7 c1 g1 e1 e2 e3 HO3 HB3 HGW BC3
        generalize wc = w4 at *
        go_wp2_with fail
        refine (enter_live WW.out HO4.out HNX.out hl0 hls).mono ?_
        rintro e w5 ⟨rfl, hI, hM⟩
        have HB5 := Aside0.mk (HO4.out.newer HN1.out HB4.out hM)
        have HI5 := Aside0.mk hI
        have HG5 := Aside0.mk (hM.blk HG4.out (HO4.out.far HG4.out (by decide) (by decide) (by decide)))
        have BC5 := Aside0.mk ((HB5.out.block w.heap.size (blk_lt B1.out)).trans B1.out)
        have c7 := (blk_cell BC5.out 7).trans (show _ = some (Value.slice (some ad) l.length k7) from rfl)
        have g2 := (blk_cell HG5.out 2).trans (show _ = some (Value.int IntKind.i64 y) from rfl)
        have c0 := clk_live hI
        clear hI hM HO4 HB4 HG4 hls hl0 HNX
        go_wp2_with fail
        have hsy : y < 40 ∧ s + y = bg ∨ ¬ y < 40 ∧ s + 40 = bg := by
          have := Hbg.out
          omega
        have HSY := Aside0.mk hsy
        clear hsy
        go_cut [108] (fun sx wx => sx = .bool false ∧ ∃ m, wx = w5.drewN m)
        case first =>
          as_aux_lemma =>
            have e3 : IntKind.i64.wrap (jj : Int) = jj := (i64_w _).trans (w64 (by omega) (by omega))
            rcases HSY.out with ⟨hy40, hb⟩ | ⟨hy40, hb⟩
            · have e1 : IntKind.i64.wrap (s + y) = bg := (i64_w _).trans ((w64 (by omega) (by omega)).trans hb)
              clear hb
              go_quiet ((go_at_call 10; exact Calls.quiet_of_same (now_live0 (HI5.out.drewN _))))
              go_wp2_with fail
              go_meet
              exact ⟨rfl, _, rfl⟩
            · have e1 : IntKind.i64.wrap (s + 40) = bg := (i64_w _).trans ((w64 (by omega) (by omega)).trans hb)
              clear hb
              go_quiet ((go_at_call 10; exact Calls.quiet_of_same (now_live0 (HI5.out.drewN _))))
              go_wp2_with fail
              go_meet
              exact ⟨rfl, _, rfl⟩
        case rest =>
          obtain ⟨rfl, m, hw⟩ := hcut
          have HI6 : Aside0 (Ins wc p M G l jj i bg B 0 last) := ⟨by rw [hw]; exact HI5.out.drewN m⟩
          have HB6 : Aside0 (Below w1.heap.size w1 wc) := ⟨by rw [hw]; exact pw_below_drewN HB5.out m⟩
          have HG6 : Aside0 (wc.heap[g]? = some (Obj.cells #[.int .i64 y0, .int .i64 z, .int .i64 y] 45 (0, 0))) := ⟨by rw [hw]; exact HG5.out⟩
          clear hw c7 c0 g2 HI5 HB5 HG5 BC5 m1 m2 m3 m4
          generalize wc = w6 at *
          go_upto_region 17 with fail
          go_cut [18] (fun sx wx => (∃ st : Bool, sx = .bool st) ∧ wx = w6)
          case first =>
            as_aux_lemma =>
              by_cases hst : K < bs.length
              · obtain ⟨ad2, hA, hb2⟩ := Kd.at_bool (Kd.C_below HS1.out HB6.out) (K : Int) (by omega) (by omega)
                subst hA
                rw [Int.toNat_natCast] at hb2
                have f1 : decide ((K : Int) < (bs.length : Int)) = true := decide_eq_true (by omega)
                have f2 : decide (K < bs.length) = true := decide_eq_true hst
                go_wp2_with fail
                go_meet
                exact ⟨⟨_, rfl⟩, rfl⟩
              · have f1 : decide ((K : Int) < (bs.length : Int)) = false := decide_eq_false (by omega)
                have f2 : decide (K < bs.length) = false := decide_eq_false hst
                go_wp2_with fail
                go_meet
                exact ⟨⟨_, rfl⟩, rfl⟩
          case rest =>
            obtain ⟨⟨st, rfl⟩, hw⟩ := hcut
            subst hw
            go_upto_block 2 with fail
            go_cut [9, 17] (fun s9 s17 wx => ∃ (n2 : Nat) (u : Int), s9 = .int .i64 n2 ∧ s17 = .int .i64 u ∧ n2 ≤ 300 * K + 300 ∧ Aside0 (Use y u) ∧ Aside0 (Ins wx p M G l jj i bg B u last) ∧ Aside0 (Below w1.heap.size w1 wx) ∧ Aside0 (wx.heap[g]? = some (Obj.cells #[.int .i64 y0, .int .i64 z, .int .i64 y] 45 (0, 0))))
            case first =>
              as_aux_lemma =>
                go_wp2_with fail
                go_loopw [9, 17, 19] (fun s9 s17 s19 wr => ∃ (n2 jn : Nat) (u : Int), s9 = .int .i64 n2 ∧ s17 = .int .i64 u ∧ s19 = .int .i64 jn ∧ jn ≤ 300 ∧ n2 ≤ 300 * K + jn ∧ Aside0 (Use y u) ∧ Aside0 (Ins wr p M G l jj i bg B u last) ∧ Aside0 (Below w1.heap.size w1 wr) ∧ Aside0 (wr.heap[g]? = some (Obj.cells #[.int .i64 y0, .int .i64 z, .int .i64 y] 45 (0, 0)))) (fun _ _ s19 _ => 300 - (intOf s19).toNat)
                case atStart => exact ⟨nn, 0, 0, rfl, rfl, rfl, by omega, by omega, ⟨⟨by omega, by omega⟩⟩, HI6, HB6, HG6⟩
                case round =>
                  clear HI6 HB6 HG6
                  obtain ⟨n2, jn, u, rfl, rfl, rfl, hjn, hn2, HU, HI, HB7, HG7⟩ := hrel
                  by_cases hj : jn < 300
                  · by_cases hu : u < B
                    · by_cases hgo : st = false ∨ jn < 2
                      · obtain ⟨hu0, hu1⟩ := HU.out
                        have hyB : 40 < y ∧ s + 40 = bg := by
                          have h1 := HBB.out
                          have h2 := Hbg.out
                          omega
                        obtain ⟨hy40, hsb⟩ := hyB
                        have HSB := Aside0.mk hsb
                        clear hsb
                        have j1 : decide ((jn : Int) < 300) = true := decide_eq_true (by omega)
                        have j2 : decide (jn < 300) = true := decide_eq_true hj
                        generalize wr = wR at *
                        go_upto_region 19 with fail
                        go_cut [132] (fun sx wx => sx = .bool true ∧ ∃ m, wx = wR.drewN m)
                        case first =>
                          as_aux_lemma =>
                            cases st
                            · go_wp2_with fail
                              refine (may_live HI.out).mono ?_
                              rw [decide_eq_true (show u < B by omega)]
                              rintro e wm ⟨rfl, m, hw⟩
                              have HW2 := Aside0.mk hw
                              clear hw
                              go_wp2_with fail
                              go_meet
                              exact ⟨rfl, m, HW2.out⟩
                            · have hj2 : jn < 2 := by
                                rcases hgo with h | h
                                · cases h
                                · exact h
                              have j3 : decide ((jn : Int) < 2) = true := decide_eq_true (by omega)
                              have j4 : decide (jn < 2) = true := decide_eq_true hj2
                              go_wp2_with fail
                              refine (may_live HI.out).mono ?_
                              rw [decide_eq_true (show u < B by omega)]
                              rintro e wm ⟨rfl, m, hw⟩
                              have HW2 := Aside0.mk hw
                              clear hw
                              go_wp2_with fail
                              go_meet
                              exact ⟨rfl, m, HW2.out⟩
                        case rest =>
                         obtain ⟨rfl, m, hw⟩ := hcut
                         have HI8 : Aside0 (Ins wc p M G l jj i bg B u last) := ⟨by rw [hw]; exact HI.out.drewN m⟩
                         have HB8 : Aside0 (Below w1.heap.size w1 wc) := ⟨by rw [hw]; exact pw_below_drewN HB7.out m⟩
                         have HG8 : Aside0 (wc.heap[g]? = some (Obj.cells #[.int .i64 y0, .int .i64 z, .int .i64 y] 45 (0, 0))) := ⟨by rw [hw]; exact HG7.out⟩
                         clear hw HI HB7 HG7 hgo j1 j2
                         generalize wc = wm at *
                         obtain ⟨zb, hzb⟩ : ∃ b, decide ((0 : Int) < (zs.length : Int)) = b := ⟨_, rfl⟩
                         have hzb2 : decide (0 < zs.length) = zb := by
                           rw [← hzb]
                           by_cases h : 0 < zs.length
                           · rw [decide_eq_true h, decide_eq_true (by omega)]
                           · rw [decide_eq_false h, decide_eq_false (by omega)]
                         have HZB := Aside0.mk hzb2
                         have BC8 := Aside0.mk ((HB8.out.block w.heap.size (blk_lt B1.out)).trans B1.out)
                         have c2 := (blk_cell BC8.out 2).trans (show _ = some (Value.int IntKind.i64 G) from rfl)
                         go_upto_region 21 with fail
                         go_cut [20] (fun sx wx => (∃ q0 : Int, sx = .int .i64 q0 ∧ 0 ≤ q0 ∧ q0 ≤ G) ∧ wx = wm)
                         case first =>
                           as_aux_lemma =>
                             by_cases hG1 : G < 1
                             all_goals
                               go_wp2_with fail
                               go_meet
                               exact ⟨⟨_, rfl, by omega, by omega⟩, rfl⟩
                         case rest =>
                           obtain ⟨⟨q0, rfl, q00, q01⟩, hw⟩ := hcut
                           subst hw
                           generalize wc = w8 at *
                           go_upto_if 140 with fail
                           clear hzb hzb2
                           go_cut [9, 20] (fun s9 sx wx => (∃ (n3 : Nat) (q : Int), s9 = .int .i64 n3 ∧ sx = .int .i64 q ∧ n3 ≤ 300 * K + jn + 1 ∧ 0 ≤ q ∧ q ≤ G) ∧ ∃ m, wx = w8.drewN m)
                           case first =>
                             as_aux_lemma =>
                               cases zb
                               · go_wp2_with fail
                                 go_meet
                                 exact ⟨⟨n2, q0, rfl, rfl, by omega, q00, q01⟩, 0, rfl⟩
                               · have hzl : 0 < zs.length := of_decide_eq_true HZB.out
                                 have hidx : (n2 : Int).tmod (zs.length : Int) = ((n2 % zs.length : Nat) : Int) := by
                                   rw [Int.tmod_eq_emod_of_nonneg (by omega), Int.natCast_emod]
                                 have hrl : n2 % zs.length < zs.length := Nat.mod_lt _ hzl
                                 have hrl2 : n2 % zs.length ≤ n2 := Nat.mod_le _ _
                                 generalize n2 % zs.length = r at *
                                 obtain ⟨ad3, hA, hx⟩ := Kd.at_int (Kd.C_below HZ1.out HB8.out) (r : Int) (by omega) (by omega)
                                 rw [Int.toNat_natCast] at hx
                                 subst hA
                                 generalize rd zs (r : Int) = x at *
                                 obtain ⟨q, q2, q3, hq⟩ := red_bd x G0 G1
                                 have k1 : decide ((zs.length : Int) ≤ (r : Int)) = false := decide_eq_false (by omega)
                                 have k2 : decide (zs.length ≤ r) = false := decide_eq_false (by omega)
                                 have k3 : decide ((r : Int) < 0) = false := decide_eq_false (by omega)
                                 have k4 : ((zs.length : Int) == 0) = false := beq_eq_false_iff_ne.2 (by omega)
                                 have k5 : (zs.length == 0) = false := beq_eq_false_iff_ne.2 (by omega)
                                 have e1 : IntKind.i64.wrap (r : Int) = r := (i64_w _).trans (w64 (by omega) (by omega))
                                 have e2 : IntKind.i64.wrap (G + 1) = G + 1 := (i64_w _).trans (w64 (by omega) (by omega))
                                 have e3 : IntKind.u64.wrap (G + 1) = G + 1 := (u64w _).trans (by omega)
                                 have e4 : IntKind.i64.wrap ((IntKind.u64.wrap x).tmod (G + 1)) = q := (i64_w _).trans hq
                                 clear hq hzl
                                 go_wp2_with fail
                                 go_quiet (fail)
                                 go_wp2_with fail
                                 go_meet
                                 exact ⟨⟨n2 + 1, q, by go_num, rfl, by omega, q2, q3⟩, _, rfl⟩
                           case rest =>
                             obtain ⟨⟨n3, q, rfl, rfl, hn3, q2, q3⟩, m3, hw⟩ := hcut
                             have HI9 : Aside0 (Ins wc p M G l jj i bg B u last) := ⟨by rw [hw]; exact HI8.out.drewN m3⟩
                             have HB9 : Aside0 (Below w1.heap.size w1 wc) := ⟨by rw [hw]; exact pw_below_drewN HB8.out m3⟩
                             have HG9 : Aside0 (wc.heap[g]? = some (Obj.cells #[.int .i64 y0, .int .i64 z, .int .i64 y] 45 (0, 0))) := ⟨by rw [hw]; exact HG8.out⟩
                             clear hw c2 BC8 HI8 HB8 HG8
                             generalize wc = w9 at *
                             have hsp : spE B u G q = 0 ∧ spU B u G q = u + q := by
                               unfold spE spU
                               rw [if_neg (by omega), if_neg (by omega), if_neg (by omega), if_neg (by omega)]
                               exact ⟨rfl, rfl⟩
                             have HSP := Aside0.mk hsp
                             have HU2 : Aside0 (Use y (u + q)) := ⟨by
                               have := use_sp WW.out HU.out q
                               rwa [hsp.2] at this⟩
                             clear hsp
                             go_wp2_with fail
                             refine (spend_live WW.out HI9.out HU.out q).mono ?_
                             rw [HSP.out.1, HSP.out.2]
                             rintro e w10 ⟨rfl, hI, hM⟩
                             have HI10 := Aside0.mk hI
                             have HB10 := Aside0.mk (HI9.out.newer HN1.out HB9.out hM)
                             have HG10 := Aside0.mk (hM.blk HG9.out (HI9.out.far HG9.out (by decide) (by decide) (by decide)))
                             have c0 := clk_live hI
                             clear hI hM HI9 HB9 HG9
                             have hU3 : 0 ≤ u + q ∧ u + q ≤ 16777216 := by
                               have := HU2.out
                               unfold Use at this
                               omega
                             obtain ⟨T, hT⟩ : ∃ T, bg + (u + q) = T := ⟨_, rfl⟩
                             go_upto_region 28 with fail
                             go_cut [183] (fun sx wx => sx = .bool false ∧ ∃ m, wx = w10.drewN m)
                             case first =>
                               as_aux_lemma =>
                                 have HT := Aside0.mk hT
                                 have hsb2 := HSB.out
                                 have e1 : IntKind.i64.wrap (s + 40) = bg := (i64_w _).trans ((w64 (by omega) (by omega)).trans HSB.out)
                                 have e2 : IntKind.i64.wrap (bg + (u + q)) = T := (i64_w _).trans ((w64 (by omega) (by omega)).trans hT)
                                 clear hT hU3 hsb2
                                 go_quiet ((first | (go_at_call 10; exact Calls.quiet_of_same (now_liveT (HI10.out.drewN _) HT.out)) | (go_at_call 15; exact Calls.quiet_of_same (time_liveT (HI10.out.drewN _) HT.out))))
                                 go_wp2_with fail
                                 go_meet
                                 exact ⟨rfl, _, rfl⟩
                             case rest =>
                               obtain ⟨rfl, m4, hw⟩ := hcut
                               have HI11 : Aside0 (Ins wc p M G l jj i bg B (u + q) last) := ⟨by rw [hw]; exact HI10.out.drewN m4⟩
                               have HB11 : Aside0 (Below w1.heap.size w1 wc) := ⟨by rw [hw]; exact pw_below_drewN HB10.out m4⟩
                               have HG11 : Aside0 (wc.heap[g]? = some (Obj.cells #[.int .i64 y0, .int .i64 z, .int .i64 y] 45 (0, 0))) := ⟨by rw [hw]; exact HG10.out⟩
                               clear hw c0 HI10 HB10 HG10 hT
                               go_wp2_with fail
                               go_roundw
                               case rel => exact ⟨n3, jn + 1, u + q, rfl, rfl, by go_num, by omega, by omega, HU2, HI11, HB11, HG11⟩
                               case measure =>
                                 simp [intOf]
                                 omega
                      · obtain ⟨hs1, hj2⟩ : st = true ∧ ¬ jn < 2 := by
                          cases st
                          · exact absurd (.inl rfl) hgo
                          · exact ⟨rfl, fun h => hgo (.inr h)⟩
                        subst hs1
                        have j3 : decide ((jn : Int) < 2) = false := decide_eq_false (by omega)
                        have j4 : decide (jn < 2) = false := decide_eq_false hj2
                        have j1 : decide ((jn : Int) < 300) = true := decide_eq_true (by omega)
                        have j2 : decide (jn < 300) = true := decide_eq_true hj
                        clear hgo
                        go_wp2_with fail
                        refine (may_live HI.out).mono ?_
                        rw [decide_eq_true (show u < B by omega)]
                        rintro e wm ⟨rfl, m, hw⟩
                        have HI8 : Aside0 (Ins wm p M G l jj i bg B u last) := ⟨by rw [hw]; exact HI.out.drewN m⟩
                        have HB8 : Aside0 (Below w1.heap.size w1 wm) := ⟨by rw [hw]; exact pw_below_drewN HB7.out m⟩
                        have HG8 : Aside0 (wm.heap[g]? = some (Obj.cells #[.int .i64 y0, .int .i64 z, .int .i64 y] 45 (0, 0))) := ⟨by rw [hw]; exact HG7.out⟩
                        clear hw HI HB7 HG7
                        go_wp2_with fail
                        go_meet
                        exact ⟨n2, u, rfl, rfl, by omega, HU, HI8, HB8, HG8⟩
                    · have j1 : decide ((jn : Int) < 300) = true := decide_eq_true (by omega)
                      have j2 : decide (jn < 300) = true := decide_eq_true hj
                      go_wp2_with fail
                      refine (may_live HI.out).mono ?_
                      rw [decide_eq_false (show ¬ u < B by omega)]
                      rintro e wm ⟨rfl, m, hw⟩
                      have HI8 : Aside0 (Ins wm p M G l jj i bg B u last) := ⟨by rw [hw]; exact HI.out.drewN m⟩
                      have HB8 : Aside0 (Below w1.heap.size w1 wm) := ⟨by rw [hw]; exact pw_below_drewN HB7.out m⟩
                      have HG8 : Aside0 (wm.heap[g]? = some (Obj.cells #[.int .i64 y0, .int .i64 z, .int .i64 y] 45 (0, 0))) := ⟨by rw [hw]; exact HG7.out⟩
                      clear hw HI HB7 HG7
                      go_wp2_with fail
                      go_meet
                      exact ⟨n2, u, rfl, rfl, by omega, HU, HI8, HB8, HG8⟩
                  · have j1 : decide ((jn : Int) < 300) = false := decide_eq_false (by omega)
                    have j2 : decide (jn < 300) = false := decide_eq_false hj
                    go_wp2_with fail
                    go_meet
                    exact ⟨n2, u, rfl, rfl, by omega, HU, HI, HB7, HG7⟩
            case rest =>
              obtain ⟨n2, u, rfl, rfl, hn2, HU, HI, HB7, HG7⟩ := hcut
              clear HI6 HB6 HG6
              have BC7 := Aside0.mk ((HB7.out.block w.heap.size (blk_lt B1.out)).trans B1.out)
              have c2 := (blk_cell BC7.out 2).trans (show _ = some (Value.int IntKind.i64 G) from rfl)
              have g2 := (blk_cell HG7.out 2).trans (show _ = some (Value.int IntKind.i64 y) from rfl)
              generalize wc = w7 at *
              obtain ⟨hu0, hu1⟩ := HU.out
              have hul : ¬ u < B → ¬ u < y - 40 - G := fun h => by
                have := HBB.out
                omega
              have HUL := Aside0.mk hul
              have t1 : decide (max 0 (y - 40) < u) = false := decide_eq_false (by omega)
              have t2 : decide ((if 0 < y - 40 then y - 40 else 0) < u) = false := decide_eq_false (by split <;> omega)
              clear hul
              go_upto_region 30 with fail
              go_cut [204] (fun sx wx => sx = .bool false ∧ ∃ m, wx = w7.drewN m)
              case first =>
                as_aux_lemma =>
                  have fin : ∀ wm m, wm = w7.drewN m → Aside0 (wm.cell? ⟨w.heap.size, 2, none⟩ = some (Value.int IntKind.i64 G) ∧ wm.cell? ⟨g, 2, none⟩ = some (Value.int IntKind.i64 y)) := fun wm m hw => ⟨by rw [hw]; exact ⟨c2, g2⟩⟩
                  have FIN := Aside0.mk fin
                  clear fin
                  by_cases hu : u < B
                  · by_cases hy : 0 < y - 40
                    all_goals
                      first | (have t5 : decide (y - 40 < u) = false := decide_eq_false (by omega)) | (have t5 : decide (0 < u) = false := decide_eq_false (by omega))
                      go_wp2_with fail
                      refine (may_live HI.out).mono ?_
                      rw [decide_eq_true (show u < B by omega)]
                      rintro e wm ⟨rfl, m, hw⟩
                      obtain ⟨c2', g2'⟩ := (FIN.out wm m hw).out
                      have HW2 := Aside0.mk hw
                      clear hw
                      go_wp2_with fail
                      go_meet
                      exact ⟨rfl, m, HW2.out⟩
                  · have t4 : decide (u < y - 40 - G) = false := decide_eq_false (HUL.out hu)
                    by_cases hy : 0 < y - 40
                    all_goals
                      first | (have t5 : decide (y - 40 < u) = false := decide_eq_false (by omega)) | (have t5 : decide (0 < u) = false := decide_eq_false (by omega))
                      go_wp2_with fail
                      refine (may_live HI.out).mono ?_
                      rw [decide_eq_false (show ¬ u < B by omega)]
                      rintro e wm ⟨rfl, m, hw⟩
                      obtain ⟨c2', g2'⟩ := (FIN.out wm m hw).out
                      have HW2 := Aside0.mk hw
                      clear hw
                      go_wp2_with fail
                      go_meet
                      exact ⟨rfl, m, HW2.out⟩
              case rest =>
                obtain ⟨rfl, m, hw⟩ := hcut
                have HI8 : Aside0 (Ins wc p M G l jj i bg B u last) := ⟨by rw [hw]; exact HI.out.drewN m⟩
                have HB8 : Aside0 (Below w1.heap.size w1 wc) := ⟨by rw [hw]; exact pw_below_drewN HB7.out m⟩
                have HG8 : Aside0 (wc.heap[g]? = some (Obj.cells #[.int .i64 y0, .int .i64 z, .int .i64 y] 45 (0, 0))) := ⟨by rw [hw]; exact HG7.out⟩
                clear hw c2 g2 HI HB7 HG7 BC7 t1 t2
                generalize wc = wm at *
                go_wp2_with fail
                refine (leave_live WW.out HI8.out HU.out).mono ?_
                rintro e w9 ⟨rfl, hO, hM⟩
                have HB9 := Aside0.mk (HI8.out.newer HN1.out HB8.out hM)
                have HO9 := Aside0.mk hO
                have HG9 := Aside0.mk (hM.blk HG8.out (HI8.out.far HG8.out (by decide) (by decide) (by decide)))
                clear hO hM HI8 HB8 HG8
                go_wp2_with fail
                refine (inside_out HO9.out).mono ?_
                rintro e wa2 ⟨rfl, m2, hw⟩
                have HO10 : Aside0 (Outs wa2 p M G l (s + y)) := ⟨by rw [hw]; exact HO9.out.drewN m2⟩
                have HB10 : Aside0 (Below w1.heap.size w1 wa2) := ⟨by rw [hw]; exact pw_below_drewN HB9.out m2⟩
                have HG10 : Aside0 (wa2.heap[g]? = some (Obj.cells #[.int .i64 y0, .int .i64 z, .int .i64 y] 45 (0, 0))) := ⟨by rw [hw]; exact HG9.out⟩
                have g2 := (blk_cell HG10.out 2).trans (show _ = some (Value.int IntKind.i64 y) from rfl)
                have c0 := clk_out HO10.out
                clear hw HO9 HB9 HG9
                go_wp2_with fail
                refine (now_out HO10.out).mono ?_
                rintro e wb ⟨rfl, rfl⟩
                go_wp2_with fail
                refine (may_out HO10.out).mono ?_
                rintro e wb ⟨rfl, m3, hw⟩
                have HO11 : Aside0 (Outs wb p M G l (s + y)) := ⟨by rw [hw]; exact HO10.out.drewN m3⟩
                have HB11 : Aside0 (Below w1.heap.size w1 wb) := ⟨by rw [hw]; exact pw_below_drewN HB10.out m3⟩
                clear hw HO10 HB10 HG10 g2 c0
                go_wp2_with fail
                obtain ⟨jj', i', hR⟩ := HNE.out
                go_roundw
                case rel => exact ⟨jj', i', K + 1, n2, s + y, rfl, by go_num, by omega, by omega, ⟨hR⟩, HO11, HB11⟩
                case measure =>
                  simp [intOf]
                  omega
    · have d1 : decide ((K : Int) < 60) = false := decide_eq_false (by omega)
      go_wp2_with fail
      go_ret
      exact ⟨rfl, below_step HB.out HBr.out⟩
theorem walk (x0 M G x3 x4 x5 : Int) (A6 : Option Addr) (n6 k6 : Nat) (A7 : Option Addr) (n7 k7 : Nat) (X : Nat → Nat → Int) (A8 : Option Addr) (n8 k8 : Nat) (a1 : Option Addr) (len1 cap1 : Nat) (z1 : List Int) (a2 : Option Addr) (len2 cap2 : Nat) (z2 : List Bool) (w : World) (h : AidRows.Recs w A7 n7 [.i64, .i64, .i64] X) (hn : n7 * 24 ≤ 140737488351232)
    (w1 : (a1 = none ∧ len1 = 0 ∧ cap1 = 0 ∧ z1 = []) ∨ ∃ x, a1 = some x ∧ len1 ≤ cap1 ∧ cap1 ≤ maxLen ∧ z1.length = cap1 ∧ (∀ i, i < z1.length → w.cell? (x.add i) = some (.int .i64 (z1.getD i 0))) ∧ ∀ n ∈ z1, (Lit.int .i64 n).wf = true) (_ : len1 * 8 ≤ 140737488351232) (w2 : Kd.bool.C w a2 len2 z2) :
    Calls Try.prog 5 #[.agg #[.int .i64 x0, .int .i64 M, .int .i64 G, .int .i64 x3, .int .i64 x4, .int .i64 x5, .slice A6 n6 k6, .slice A7 n7 k7, .slice A8 n8 k8], .slice a1 len1 cap1, .slice a2 len2 cap2] w fun e w' => e = .returned (.bool true) ∧ Below w.heap.size w w' := by
  obtain ⟨zs, rfl, hr, hm, hw, hc⟩ := ReadsInt.ofRowC w1
  have hz2 : len2 = z2.length := w2.1.symm
  subst hz2
  have := cycles x0 M G x3 x4 x5 A6 A7 A8 n6 k6 k7 n8 k8 (PlanRec.wins n7 X) a1 zs cap1 a2 z2 cap2 w (PlanRec.wins_row h hn) (PlanRec.wins_bound h) ⟨Kd.C_of_reads (d := (0 : Int)) (h1 := fun _ => rfl) hr⟩ ⟨w2⟩
  rwa [PlanRec.wins_length] at this
end Go.Proofs.Ytagnlbpndldfeaa.SLawCycles
