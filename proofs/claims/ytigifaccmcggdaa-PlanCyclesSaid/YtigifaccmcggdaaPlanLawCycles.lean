/- The law PlanCycles: the walk. -/
import Derived.Test.YtigifaccmcggdaaPlanWorks
import Derived.Test.YtigifaccmcggdaaPlanCyclesPure
import Derived.Test.YtigifaccmcggdaaPlanRec
namespace Go.Proofs.Ytigifaccmcggdaa.PlanLawCycles
open Go.RowKit Go.Proofs.Ytigifaccmcggdaa.PPlanCycles Go.Proofs.YtigifaccmcggdaaW.PrintWords Go.Proofs.YtigifaccmcggdaaW.PrintLast Go.Proofs.YtigifaccmcggdaaW.PrintMore Go.Proofs.Ytigifaccmcggdaa.Aid Go.Proofs.Ytigifaccmcggdaa.PlanBase Go.Proofs.Ytigifaccmcggdaa.PlanAt Go.Proofs.Ytigifaccmcggdaa.PlanStart Go.Proofs.Ytigifaccmcggdaa.PlanCalls Go.Proofs.Ytigifaccmcggdaa.PlanBudget Go.Proofs.Ytigifaccmcggdaa.PlanWorks Go.Proofs.Ytigifaccmcggdaa.PlanCyclesPure

set_option maxHeartbeats 3200000 in
set_option maxRecDepth 100000 in
theorem cycles (x0 M G x3 x4 x5 : Int) (A6 A7 A8 : Option Addr) (n6 k6 k7 n8 k8 : Nat) (l : List S35) (from' : Int) (w : World) (hr : Kd.C k35 w A7 l.length l) (hw : ∀ x ∈ l, (-9223372036854775808 ≤ x.f1 ∧ x.f1 < 9223372036854775808) ∧ (-9223372036854775808 ≤ x.f2 ∧ x.f2 < 9223372036854775808)) :
    Calls Try.prog 6 #[.agg #[Value.int IntKind.i64 x0, Value.int IntKind.i64 M, Value.int IntKind.i64 G, Value.int IntKind.i64 x3, Value.int IntKind.i64 x4, Value.int IntKind.i64 x5, Value.slice A6 n6 k6, Value.slice A7 l.length k7, Value.slice A8 n8 k8], .int .i64 from'] w fun e w' => e = .returned (.bool true) ∧ Below w.heap.size w w' := by
  have HR := Aside0.mk hr
  have HW := Aside0.mk hw
  clear hr hw
  go_enter Try.func6, Try.ntmps6
  go_wp2_with fail
  have b1 : Aside0 ((w.alloc (Obj.cells #[Value.int IntKind.i64 x0, Value.int IntKind.i64 M, Value.int IntKind.i64 G, Value.int IntKind.i64 x3, Value.int IntKind.i64 x4, Value.int IntKind.i64 x5, Value.slice A6 n6 k6, Value.slice A7 l.length k7, Value.slice A8 n8 k8] 26)).heap[w.heap.size]? = some (.cells #[Value.int IntKind.i64 x0, Value.int IntKind.i64 M, Value.int IntKind.i64 G, Value.int IntKind.i64 x3, Value.int IntKind.i64 x4, Value.int IntKind.i64 x5, Value.slice A6 n6 k6, Value.slice A7 l.length k7, Value.slice A8 n8 k8] 26 (0, 0))) := ⟨heap_alloc_new w _⟩
  have b2 : Aside0 (Below w.heap.size w (w.alloc (Obj.cells #[Value.int IntKind.i64 x0, Value.int IntKind.i64 M, Value.int IntKind.i64 G, Value.int IntKind.i64 x3, Value.int IntKind.i64 x4, Value.int IntKind.i64 x5, Value.slice A6 n6 k6, Value.slice A7 l.length k7, Value.slice A8 n8 k8] 26))) := ⟨below_alloc (Below.refl _ _) _⟩
  generalize w.alloc (Obj.cells #[Value.int IntKind.i64 x0, Value.int IntKind.i64 M, Value.int IntKind.i64 G, Value.int IntKind.i64 x3, Value.int IntKind.i64 x4, Value.int IntKind.i64 x5, Value.slice A6 n6 k6, Value.slice A7 l.length k7, Value.slice A8 n8 k8] 26) = wa at *
  refine (works_calls wa).mono ?_
  rintro e w1 ⟨rfl, hB⟩
  have hbr : w1.heap[w.heap.size]? = _ := (hB.block w.heap.size (blk_lt b1.out)).trans b1.out
  have B1 := Aside0.mk hbr
  have c0 := (blk_cell hbr 0).trans (show _ = some (Value.int IntKind.i64 x0) from rfl); have c1 := (blk_cell hbr 1).trans (show _ = some (Value.int IntKind.i64 M) from rfl); have c2 := (blk_cell hbr 2).trans (show _ = some (Value.int IntKind.i64 G) from rfl); have c3 := (blk_cell hbr 3).trans (show _ = some (Value.int IntKind.i64 x3) from rfl); have c4 := (blk_cell hbr 4).trans (show _ = some (Value.int IntKind.i64 x4) from rfl); have c5 := (blk_cell hbr 5).trans (show _ = some (Value.int IntKind.i64 x5) from rfl); have c6 := (blk_cell hbr 6).trans (show _ = some (Value.slice A6 n6 k6) from rfl); have c7 := (blk_cell hbr 7).trans (show _ = some (Value.slice A7 l.length k7) from rfl); have c8 := (blk_cell hbr 8).trans (show _ = some (Value.slice A8 n8 k8) from rfl)
  have HB := Aside0.mk (below_step b2.out hB)
  have HC1 := Aside0.mk (Kd.C_below HR.out HB.out)
  clear hbr hB b1 b2
  go_wp2_with fail
  refine (PlanNew.new_calls x0 M G x3 x4 x5 A6 A7 A8 n6 k6 k7 n8 k8 l _ HC1.out HW.out).mono ?_
  generalize hE : newE M G l = E
  rintro e w2 ⟨hB, h⟩
  have HB2 := Aside0.mk (below_step HB.out hB)
  rcases h with ⟨hne, rfl⟩ | ⟨h0, g, rfl, hg, hP⟩
  · clear hB
    have h1 : (E == 0) = false := beq_eq_false_iff_ne.2 hne
    have h2 : (E != 0) = true := by simp [hne]
    clear hE
    go_wp2_with fail
    go_ret
    exact ⟨rfl, HB2.out⟩
  · subst h0
    have hbr : w2.heap[w.heap.size]? = _ := (hB.block w.heap.size (blk_lt B1.out)).trans B1.out
    clear c0 c1 c2 c3 c4 c5 c6 c7 c8
    have c1 := (blk_cell hbr 1).trans (show _ = some (Value.int IntKind.i64 M) from rfl)
    have c7 := (blk_cell hbr 7).trans (show _ = some (Value.slice A7 l.length k7) from rfl)
    have HC2 := Aside0.mk (Kd.C_below HR.out HB2.out)
    have HP := Aside0.mk hP
    have HF := Aside0.mk (fit_of hE).1
    have HO := Aside0.mk (fit_of hE).2
    have hgl := blk_lt hbr
    clear hE hP hB hbr HB B1 HC1
    obtain ⟨M0, M1, hl, _⟩ := HF.out
    go_wp2_with fail
    refine (windows_calls g M G l _ HP.out).mono ?_
    rintro e w3 ⟨rfl, rfl⟩
    by_cases hz : l.length = 0
    · have z1 : ((l.length : Int) == 0) = true := by simp [hz]
      go_wp2_with fail
      go_ret
      exact ⟨rfl, HB2.out⟩
    have z1 : ((l.length : Int) == 0) = false := beq_eq_false_iff_ne.2 (by omega)
    have z2 : (l.length == 0) = false := beq_eq_false_iff_ne.2 hz
    have hj : ∃ j, wrap64 ((IntKind.u64.wrap from').tmod 1000000) = j ∧ 0 ≤ j ∧ j < 1000000 := ⟨_, rfl, by
      rw [u64w, Int.tmod_eq_emod_of_nonneg (by omega)]
      rw [w64 (by omega) (by omega)]
      omega⟩
    obtain ⟨j, hj, j0', j1'⟩ := hj
    obtain ⟨P0, P1⟩ := big HF.out j0' (by omega)
    go_wp2_with fail
    rw [hj]
    clear hj
    go_loopw [7, 8, 9, 10] (fun mj tt ii nn wr => ∃ (j T : Int) (i n : Nat), mj = .int .i64 j ∧ tt = .int .i64 T ∧ ii = .int .i64 i ∧ nn = .int .i64 n ∧ n ≤ 80 ∧ i < l.length ∧ 0 ≤ j ∧ j ≤ 1000000 + n ∧ Aside0 (Inv M l j T i) ∧ Aside0 (Below w3.heap.size w3 wr)) (fun _ _ _ nn _ => 80 - (intOf nn).toNat)
    case atStart => exact ⟨j, j * M, 0, 0, rfl, rfl, rfl, rfl, by omega, by omega, j0', by omega, ⟨inv_first HF.out j0' (by omega) (by omega)⟩, ⟨Below.refl _ _⟩⟩
    case round =>
      clear j0' j1' P0 P1
      obtain ⟨j, T, i, n, rfl, rfl, rfl, rfl, hn, hi, j0', j1', HI, HBr⟩ := hrel
      have e7 := (HBr.out.cell (p := ⟨w.heap.size, 7, none⟩) hgl).trans c7
      have e1 := (HBr.out.cell (p := ⟨w.heap.size, 1, none⟩) hgl).trans c1
      have E7 := Aside0.mk e7
      have E1 := Aside0.mk e1
      have HPr := Aside0.mk (HP.out.below HBr.out)
      have HBB := Aside0.mk (below_step HB2.out HBr.out)
      have hgr : w.heap.size < wr.heap.size := Nat.lt_of_lt_of_le hgl HBr.out.size
      have C1 := Aside0.mk c1
      have C7 := Aside0.mk c7
      clear c1 c7
      by_cases hlt : n < 80
      · obtain ⟨u0, u1, v0, v1⟩ := HF.out.2.2.2 _ (gd_mem hi)
        obtain ⟨P0, P1⟩ := big HF.out j0' (show j ≤ 2000000 by omega)
        have SI := Aside0.mk (start_is HF.out j0' (show j ≤ 2000000 by omega) hi)
        have AI0 := Aside0.mk (at_in_it HF.out HO.out j0' (show j ≤ 2000000 by omega) hi (Int.le_refl _) (by omega))
        have AI1 := Aside0.mk (at_in_it HF.out HO.out j0' (show j ≤ 2000000 by omega) hi (p := (gd l i).f1 + (gd l i).f2 - 1) (by omega) (by omega))
        have AE := Aside0.mk (at_end HF.out HO.out j0' (show j ≤ 2000000 by omega) hi)
        have NX := Aside0.mk (fun h : i + 1 < l.length => inv_next HF.out HO.out j0' (show j ≤ 2000000 by omega) h)
        have NW := Aside0.mk (fun h : i + 1 = l.length => inv_wrap HF.out HO.out j0' (show j ≤ 2000000 by omega) h)
        obtain ⟨P, hP⟩ : ∃ P, j * M = P := ⟨_, rfl⟩
        rw [hP] at P0 P1
        have HIT := Aside0.mk HI.out.1
        have tS := HI.out.2
        rw [hP] at tS
        obtain ⟨y1, hy1⟩ : ∃ y, (gd l i).f1 = y := ⟨_, rfl⟩
        obtain ⟨y2, hy2⟩ : ∃ y, (gd l i).f2 = y := ⟨_, rfl⟩
        have hyA := Aside0.mk hy1
        have hyB := Aside0.mk hy2
        rw [hy1] at u0 u1 v1 tS
        rw [hy2] at v0 v1
        rw [hy1, hP] at SI
        rw [hy1, hP] at AI0
        rw [hy1, hy2, hP] at AI1
        rw [hy1, hy2, hP] at AE
        rw [hy1, hP] at NX NW
        clear hy1 hy2 HI
        go_wp2_with fail
        refine (next_calls g M G l _ T HPr.out HF.out).mono ?_
        rw [HIT.out]
        rintro e wb ⟨rfl, hB⟩
        have HPb := Aside0.mk (HPr.out.below hB)
        have HBb := Aside0.mk (below_step HBB.out hB)
        have HBx := Aside0.mk (below_step HBr.out hB)
        have hgb : w.heap.size < wb.heap.size := Nat.lt_of_lt_of_le hgr hB.size
        clear hB e7 e1 HPr HBB HIT
        go_wp2_with fail
        refine (start_calls g M G l _ j i HPb.out HF.out).mono ?_
        rw [SI.out]
        rintro e wc ⟨rfl, hB⟩
        have HPc := Aside0.mk (HPb.out.below hB)
        have HBc := Aside0.mk (below_step HBb.out hB)
        have HBy := Aside0.mk (below_step HBx.out hB)
        have f7 := (HBy.out.cell (p := ⟨w.heap.size, 7, none⟩) hgl).trans C7.out
        have f1 := (HBy.out.cell (p := ⟨w.heap.size, 1, none⟩) hgl).trans C1.out
        have hgc : w.heap.size < wc.heap.size := Nat.lt_of_lt_of_le hgb hB.size
        clear hB HPb HBb HBx
        obtain ⟨ad, hA, hx0, hx1, hx2⟩ := at_T35 (Kd.C_below HC2.out HBy.out) (i : Int) (by omega) (by omega)
        rw [rd_gd, hyA.out] at hx1
        rw [rd_gd, hyB.out] at hx2
        rw [Int.toNat_natCast] at hx0 hx1 hx2
        subst hA
        have d1 : decide (P + y1 < T) = false := decide_eq_false (by omega)
        have d2 : decide ((l.length : Int) ≤ (i : Int)) = false := decide_eq_false (by omega)
        have d3 : decide (l.length ≤ i) = false := decide_eq_false (by omega)
        have d4 : decide ((i : Int) < 0) = false := decide_eq_false (by omega)
        have d5 : (P + y1 != P + y1) = false := by simp
        go_wp2_with fail
        go_quiet (fail)
        go_wp2_with fail
        refine (at_calls g M G l _ _ (HPc.out.below (pw_below_drewN (Below.refl _ _) _)) HF.out).mono ?_
        rw [AI0.out]
        rintro e wd ⟨rfl, hB⟩
        have hBd := below_step (pw_below_drewN (Below.refl _ _) _) hB
        have HPd := Aside0.mk (HPc.out.below hBd)
        have HBd := Aside0.mk (below_step HBc.out hBd)
        have HBz := Aside0.mk (below_step HBy.out hBd)
        clear hB hBd HPc HBc HBy f7 f1 hx0 hx1 hx2 hgc d1 d5
        go_wp2_with fail
        refine (at_calls g M G l _ _ HPd.out HF.out).mono ?_
        rw [show P + y1 + y2 - 1 = P + (y1 + y2 - 1) by omega, AI1.out]
        rintro e we ⟨rfl, hB⟩
        have HPe := Aside0.mk (HPd.out.below hB)
        have HBe := Aside0.mk (below_step HBd.out hB)
        have HBz2 := Aside0.mk (below_step HBz.out hB)
        clear hB HPd HBd HBz
        go_wp2_with fail
        refine (at_calls g M G l _ _ HPe.out HF.out).mono ?_
        have AE2 := AE.out
        clear AE
        generalize atR M l (P + y1 + y2) = R at *
        obtain ⟨a, z, ok⟩ := R
        rintro e wf ⟨rfl, hB⟩
        have HBf := Aside0.mk (below_step HBe.out hB)
        have HBz := Aside0.mk (below_step HBz2.out hB)
        clear hB HPe HBe HBz2
        have f7 := (HBz.out.cell (p := ⟨w.heap.size, 7, none⟩) hgl).trans C7.out
        have f1 := (HBz.out.cell (p := ⟨w.heap.size, 1, none⟩) hgl).trans C1.out
        by_cases hzi : z = (i : Int)
        · obtain ⟨i0, l1, eqE⟩ := AE2 hzi
          subst hzi
          have hg0 : (gd l 0).f1 = y1 := by
            have h := hyA.out
            rw [i0] at h
            exact h
          rw [hg0] at eqE
          obtain ⟨Q, hQ⟩ : ∃ Q, (j + 1) * M = Q := ⟨_, rfl⟩
          have Q1 : Q = P + M := by rw [← hQ, ← hP, Int.add_mul, Int.one_mul]
          have Q2 : 0 ≤ Q := by omega
          have Q3 : Q ≤ 33554449000000 := by omega
          rw [hQ] at eqE
          obtain ⟨ad2, hA, hx0, hx1, hx2⟩ := at_T35 (Kd.C_below HC2.out HBz.out) ((0 : Nat) : Int) (by omega) (by omega)
          obtain rfl : ad = ad2 := by simpa using hA
          rw [rd_gd, hg0] at hx1
          rw [Int.toNat_natCast] at hx0 hx1 hx2
          have k1 : decide ((l.length : Int) ≤ 0) = false := decide_eq_false (by omega)
          have k2 : decide ((i : Int) + 1 < (l.length : Int)) = false := decide_eq_false (by omega)
          have k3 : decide ((1 : Int) < (l.length : Int)) = false := decide_eq_false (by omega)
          have k4 : decide (1 < l.length) = false := decide_eq_false (by omega)
          have k5 : (P + y1 + y2 != Q + y1) = false := by simp [eqE]
          have k6 : ((i : Int) + 1 == (l.length : Int)) = true := beq_iff_eq.2 (by omega)
          have k8 : decide ((i : Int) + 1 < (l.length : Int)) = false := decide_eq_false (by omega)
          have k9 : decide (l.length ≤ 0) = false := decide_eq_false (by omega)
          have HWN := Aside0.mk (show i + 1 = l.length by omega)
          clear i0 l1 Q1 hg0
          have hxa : wf.cell? ⟨(ad.add 0).block, (ad.add 0).off + 1, none⟩ = some (.int .i64 y1) := hx1
          have hxb : wf.cell? ⟨ad.block, ad.off + 1, none⟩ = some (.int .i64 y1) := hx1
          clear eqE AE2 hA hx0 hx2
          go_wp2_with fail
          go_quiet (fail)
          go_wp2_with fail
          case roundEnd =>
            go_roundw
            case rel => exact ⟨j + 1, P + y1 + 1, 0, n + 1, rfl, rfl, rfl, by go_num, by omega, by omega, by omega, by omega, ⟨NW.out HWN.out⟩, ⟨pw_below_drewN HBz.out _⟩⟩
            case measure =>
              simp [intOf]
              omega
        · have k1 : (z == (i : Int)) = false := beq_eq_false_iff_ne.2 hzi
          clear AE2 hzi
          go_wp2_with fail
          go_quiet (fail)
          by_cases hw : i + 1 = l.length
          · have k2 : ((i : Int) + 1 == (l.length : Int)) = true := beq_iff_eq.2 (by omega)
            go_wp2_with fail
            case roundEnd =>
              go_roundw
              case rel => exact ⟨j + 1, P + y1 + 1, 0, n + 1, rfl, rfl, rfl, by go_num, by omega, by omega, by omega, by omega, ⟨NW.out hw⟩, ⟨pw_below_drewN HBz.out _⟩⟩
              case measure =>
                simp [intOf]
                omega
          · have k2 : ((i : Int) + 1 == (l.length : Int)) = false := beq_eq_false_iff_ne.2 (by omega)
            go_wp2_with fail
            case roundEnd =>
              go_roundw
              case rel => exact ⟨j, P + y1 + 1, i + 1, n + 1, rfl, rfl, by go_num, by go_num, by omega, by omega, by omega, by omega, ⟨NX.out (by omega)⟩, ⟨pw_below_drewN HBz.out _⟩⟩
              case measure =>
                simp [intOf]
                omega
      · go_wp2_with fail
        go_ret
        exact ⟨rfl, HBB.out⟩
theorem walk (x0 M G x3 x4 x5 : Int) (A6 : Option Addr) (n6 k6 : Nat) (A7 : Option Addr) (n7 k7 : Nat) (X : Nat → Nat → Int) (A8 : Option Addr) (n8 k8 : Nat) (from' : Int) (w : World) (h : AidRows.Recs w A7 n7 [.i64, .i64, .i64] X) (hn : n7 * 24 ≤ 140737488351232)
    (_ : (Lit.int .i64 from').wf = true) :
    Calls Try.prog 6 #[.agg #[.int .i64 x0, .int .i64 M, .int .i64 G, .int .i64 x3, .int .i64 x4, .int .i64 x5, .slice A6 n6 k6, .slice A7 n7 k7, .slice A8 n8 k8], .int .i64 from'] w fun e w' => e = .returned (.bool true) ∧ Below w.heap.size w w' := by
  have := cycles x0 M G x3 x4 x5 A6 A7 A8 n6 k6 k7 n8 k8 (PlanRec.wins n7 X) from' w (PlanRec.wins_row h hn) (PlanRec.wins_bound h)
  rwa [PlanRec.wins_length] at this
end Go.Proofs.Ytigifaccmcggdaa.PlanLawCycles
