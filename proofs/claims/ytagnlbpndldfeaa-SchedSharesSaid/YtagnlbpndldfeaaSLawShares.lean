/- Everybody gets their share: the walk of the law. -/
import Derived.Test.YtagnlbpndldfeaaSWorks
import Derived.Test.YtagnlbpndldfeaaPlanRec
namespace Go.Proofs.Ytagnlbpndldfeaa.SLawShares
open Go.RowKit Go.Proofs.Ytagnlbpndldfeaa.PSchedPlays Go.Proofs.YtagnlbpndldfeaaW.PrintWords Go.Proofs.YtagnlbpndldfeaaW.PrintLast Go.Proofs.YtagnlbpndldfeaaW.PrintMore Go.Proofs.Ytagnlbpndldfeaa.Aid Go.Proofs.Ytagnlbpndldfeaa.PlanBase Go.Proofs.Ytagnlbpndldfeaa.SPlanAt Go.Proofs.Ytagnlbpndldfeaa.SPlanStart Go.Proofs.Ytagnlbpndldfeaa.SPlanCalls Go.Proofs.Ytagnlbpndldfeaa.SPlanBudget Go.Proofs.Ytagnlbpndldfeaa.SBase Go.Proofs.Ytagnlbpndldfeaa.SState Go.Proofs.Ytagnlbpndldfeaa.SLeave Go.Proofs.Ytagnlbpndldfeaa.SEnter Go.Proofs.Ytagnlbpndldfeaa.SCycPure Go.Proofs.Ytagnlbpndldfeaa.SLive Go.Proofs.Ytagnlbpndldfeaa.SNew Go.Proofs.Ytagnlbpndldfeaa.SWorks
set_option linter.unusedVariables false
set_option linter.unusedSimpArgs false
attribute [local go_sem] min2_int max2_int min_two max_two
/-- The windows' lengths ahead of a place, added up. -/
def pre (l : List S45) : Nat → Int
  | 0 => 0
  | i + 1 => pre l i + (gd l i).f2
theorem pre_bd {M : Int} {l : List S45} (hF : Fit M l) : ∀ i, i ≤ l.length → 0 ≤ pre l i ∧ pre l i ≤ 16777216 * i
  | 0, _ => by simp [pre]
  | i + 1, h => by
    obtain ⟨a, b⟩ := pre_bd hF i (by omega)
    have h2 := hF.2.2.2 _ (gd_mem (show i < l.length by omega))
    have M1 := hF.2.1
    simp only [pre]
    omega
/-- How often window 0 has been left. -/
def cnt (jj i : Nat) : Int := jj + (if i = 0 then 0 else 1)
/-- What a round leaves. -/
structure Rnd (M G : Int) (l : List S45) (jj i K : Nat) (gt ins last : Int) : Prop where
  hi : i < l.length
  hj : jj ≤ 4
  h4 : jj = 4 → i = 0
  hK : K = jj * l.length + i
  inv : Inv M l jj last i
  l0 : 0 ≤ last
  g0 : max 0 ((gd l 0).f2 - 40 - G) * cnt jj i ≤ gt
  g1 : gt ≤ 16777216 * K
  g2 : 0 ≤ gt
  hs : ins = jj * pre l l.length + pre l i
theorem rnd_next {M G : Int} {l : List S45} {jj i K : Nat} {gt ins last : Int} (h : Rnd M G l jj i K gt ins last) (hF : Fit M l) (hO : Ord 0 l) (hj : jj < 4) {gt' : Int} (hg : gt ≤ gt') (hg2 : gt' ≤ gt + 16777216) (hz : i = 0 → gt + max 0 ((gd l 0).f2 - 40 - G) ≤ gt') :
    ∃ jj' i', Rnd M G l jj' i' (K + 1) gt' (ins + (gd l i).f2) (jj * M + (gd l i).f1 + (gd l i).f2) := by
  have hb := big hF (show (0 : Int) ≤ (jj : Int) by omega) (by omega)
  have hw := hF.2.2.2 _ (gd_mem h.hi)
  have hi := h.hi
  have hK := h.hK
  have hs := h.hs
  have g0 := h.g0
  have g1 := h.g1
  have g2 := h.g2
  by_cases hn : i + 1 < l.length
  · refine ⟨jj, i + 1, hn, by omega, by omega, by omega, end_next hF hO (by omega) (by omega) hn, by omega, ?_, by omega, by omega, by simp only [pre]; omega⟩
    by_cases h0 : i = 0
    · have hz2 := hz h0
      subst h0
      unfold cnt at *
      rw [if_pos rfl] at g0
      rw [if_neg (by omega), Int.mul_add, Int.mul_one]
      rw [Int.add_zero] at g0
      omega
    · unfold cnt at *
      rw [if_neg h0] at g0
      rw [if_neg (by omega)]
      omega
  · have hn2 : i + 1 = l.length := by omega
    refine ⟨jj + 1, 0, by omega, by omega, fun _ => rfl, ?_, ?_, by omega, ?_, by omega, by omega, ?_⟩
    · rw [Nat.add_mul, Nat.one_mul]
      omega
    · have := end_wrap hF hO (show (0 : Int) ≤ (jj : Int) by omega) (by omega) hn2 (by omega)
      rw [Int.natCast_add]
      exact this
    · by_cases h0 : i = 0
      · have hz2 := hz h0
        subst h0
        unfold cnt at *
        rw [if_pos rfl] at g0 ⊢
        rw [Int.natCast_add, Int.add_zero, Int.mul_add]
        rw [Int.add_zero] at g0
        simp only [Int.natCast_one, Int.mul_one]
        omega
      · unfold cnt at *
        rw [if_neg h0] at g0
        rw [if_pos rfl, Int.natCast_add, Int.add_zero]
        simp only [Int.natCast_one]
        omega
    · rw [hs, ← hn2, Int.natCast_add, Int.add_mul]
      simp only [pre, Int.natCast_one, Int.one_mul, Int.add_zero]
      omega
theorem rnd_first {M G : Int} {l : List S45} (hF : Fit M l) (hO : Ord 0 l) (h : 0 < l.length) : Rnd M G l 0 0 0 0 0 0 := by
  refine ⟨h, by omega, fun _ => rfl, by simp, ?_, by omega, by simp [cnt], by omega, by omega, by simp [pre]⟩
  have := inv_first hF (j := 0) (by omega) (by omega) h
  rw [Int.zero_mul] at this
  exact this
theorem rnd_K {M G : Int} {l : List S45} {jj i K : Nat} {gt ins last : Int} (h : Rnd M G l jj i K gt ins last) : (jj < 4 → K < 4 * l.length) ∧ (¬ jj < 4 → K = 4 * l.length) := by
  have hi := h.hi
  have hj := h.hj
  have h4 := h.h4
  rw [h.hK]
  refine ⟨fun hl => ?_, fun hl => ?_⟩
  · have := Nat.mul_le_mul_right l.length (show jj ≤ 3 by omega)
    omega
  · have e : jj = 4 := by omega
    rw [h4 e, e]
    omega
theorem rnd_ins {M G : Int} {l : List S45} {jj i K : Nat} {gt ins last : Int} (h : Rnd M G l jj i K gt ins last) (hF : Fit M l) : 0 ≤ ins ∧ ins ≤ 4294967296 := by
  have hi := h.hi
  have hl := hF.2.2.1
  obtain ⟨a, b⟩ := pre_bd hF l.length (Nat.le_refl _)
  obtain ⟨c, d⟩ := pre_bd hF i (by omega)
  have hj := h.hj
  have h1 : (0 : Int) ≤ jj * pre l l.length := Int.mul_nonneg (by omega) a
  have h2 : (jj : Int) * pre l l.length ≤ 4 * pre l l.length := Int.mul_le_mul_of_nonneg_right (by omega) a
  rw [h.hs]
  omega
theorem cost_bd (x : Int) : ∃ q, wrap64 ((IntKind.u64.wrap x).tmod 30) = q ∧ 0 ≤ q ∧ q < 30 := ⟨_, rfl, by
  rw [u64w, Int.tmod_eq_emod_of_nonneg (by omega)]
  rw [w64 (by omega) (by omega)]
  omega⟩
set_option maxHeartbeats 6400000 in
set_option maxRecDepth 100000 in
theorem shares (x0 M G x3 x4 x5 : Int) (A6 A7 A8 : Option Addr) (n6 k6 k7 n8 k8 : Nat) (l : List S45) (cost : Int) (A : Option Addr) (zs : List Int) (cz : Nat) (w : World) (hr : Kd.C k45 w A7 l.length l) (hw : ∀ x ∈ l, (-9223372036854775808 ≤ x.f1 ∧ x.f1 < 9223372036854775808) ∧ (-9223372036854775808 ≤ x.f2 ∧ x.f2 < 9223372036854775808)) (hz : Aside0 ((Kd.int .i64).C w A zs.length zs)) :
    Calls Try.prog 3 #[.agg #[Value.int IntKind.i64 x0, Value.int IntKind.i64 M, Value.int IntKind.i64 G, Value.int IntKind.i64 x3, Value.int IntKind.i64 x4, Value.int IntKind.i64 x5, Value.slice A6 n6 k6, Value.slice A7 l.length k7, Value.slice A8 n8 k8], .int .i64 cost, .slice A zs.length cz] w fun e w' => e = .returned (.bool true) ∧ Below w.heap.size w w' := by
  have HR := Aside0.mk hr
  have HW := Aside0.mk hw
  clear hr hw
  go_enter Try.func3, Try.ntmps3
  go_wp2_with fail
  have b1 : Aside0 ((w.alloc (Obj.cells #[Value.int IntKind.i64 x0, Value.int IntKind.i64 M, Value.int IntKind.i64 G, Value.int IntKind.i64 x3, Value.int IntKind.i64 x4, Value.int IntKind.i64 x5, Value.slice A6 n6 k6, Value.slice A7 l.length k7, Value.slice A8 n8 k8] 26)).heap[w.heap.size]? = some (.cells #[Value.int IntKind.i64 x0, Value.int IntKind.i64 M, Value.int IntKind.i64 G, Value.int IntKind.i64 x3, Value.int IntKind.i64 x4, Value.int IntKind.i64 x5, Value.slice A6 n6 k6, Value.slice A7 l.length k7, Value.slice A8 n8 k8] 26 (0, 0))) := ⟨heap_alloc_new w _⟩
  have b2 : Aside0 (Below w.heap.size w (w.alloc (Obj.cells #[Value.int IntKind.i64 x0, Value.int IntKind.i64 M, Value.int IntKind.i64 G, Value.int IntKind.i64 x3, Value.int IntKind.i64 x4, Value.int IntKind.i64 x5, Value.slice A6 n6 k6, Value.slice A7 l.length k7, Value.slice A8 n8 k8] 26))) := ⟨below_alloc (Below.refl _ _) _⟩
  generalize w.alloc (Obj.cells #[Value.int IntKind.i64 x0, Value.int IntKind.i64 M, Value.int IntKind.i64 G, Value.int IntKind.i64 x3, Value.int IntKind.i64 x4, Value.int IntKind.i64 x5, Value.slice A6 n6 k6, Value.slice A7 l.length k7, Value.slice A8 n8 k8] 26) = wa at *
  refine (works_calls wa).mono ?_
  rintro e w1 ⟨rfl, hB⟩
  have hbr : w1.heap[w.heap.size]? = _ := (hB.block w.heap.size (blk_lt b1.out)).trans b1.out
  have B1 := Aside0.mk hbr
  have c0 := (blk_cell hbr 0).trans (show _ = some (Value.int IntKind.i64 x0) from rfl); have c1 := (blk_cell hbr 1).trans (show _ = some (Value.int IntKind.i64 M) from rfl); have c2 := (blk_cell hbr 2).trans (show _ = some (Value.int IntKind.i64 G) from rfl); have c3 := (blk_cell hbr 3).trans (show _ = some (Value.int IntKind.i64 x3) from rfl); have c4 := (blk_cell hbr 4).trans (show _ = some (Value.int IntKind.i64 x4) from rfl); have c5 := (blk_cell hbr 5).trans (show _ = some (Value.int IntKind.i64 x5) from rfl); have c6 := (blk_cell hbr 6).trans (show _ = some (Value.slice A6 n6 k6) from rfl); have c7 := (blk_cell hbr 7).trans (show _ = some (Value.slice A7 l.length k7) from rfl); have c8 := (blk_cell hbr 8).trans (show _ = some (Value.slice A8 n8 k8) from rfl)
  have HB := Aside0.mk (below_step b2.out hB)
  have HC1 := Aside0.mk (Kd.C_below HR.out HB.out)
  clear hbr hB b1 b2
  go_wp2_with fail
  refine (new_calls x0 M G x3 x4 x5 A6 A7 A8 n6 k6 k7 n8 k8 l _ HC1.out HW.out).mono ?_
  rintro e w2 ⟨hB, h⟩
  have HB2 := Aside0.mk hB
  rcases h with ⟨hne, rfl⟩ | ⟨h0, p, rfl, hg1, hg2, hR⟩
  · clear hB
    generalize newE M G l = E at *
    have h1 : (E == 0) = false := beq_eq_false_iff_ne.2 hne
    have h2 : (E != 0) = true := by simp [hne]
    clear hne
    go_wp2_with fail
    go_ret
    exact ⟨rfl, below_step HB.out HB2.out⟩
  have hE := h0
  clear h0
  have BC := Aside0.mk ((hB.block w.heap.size (blk_lt B1.out)).trans B1.out)
  clear c0 c1 c2 c3 c4 c5 c6 c7 c8
  have HN1 : Aside0 (Newer w1 p) := ⟨hg1, hg2⟩
  have HO := Aside0.mk (show Outs w2 p M G l 0 from hR)
  have HF := Aside0.mk (fit_of hE).1
  have HD := Aside0.mk (fit_of hE).2
  have HG := Aside0.mk (new_G hE)
  clear hE hR hB hg1 hg2
  have c7 := (blk_cell BC.out 7).trans (show _ = some (Value.slice A7 l.length k7) from rfl)
  have c2 := (blk_cell BC.out 2).trans (show _ = some (Value.int IntKind.i64 G) from rfl)
  obtain ⟨q, hq, q0, q1⟩ := cost_bd cost
  obtain ⟨M0, M1, hl, _⟩ := HF.out
  obtain ⟨G0, G1⟩ := HG.out
  by_cases hz0 : l.length = 0
  · have z1 : ((l.length : Int) == 0) = true := by simp [hz0]
    have z2 : (l.length == 0) = true := by simp [hz0]
    clear hq
    go_wp2_with fail
    go_ret
    exact ⟨rfl, below_step HB.out HB2.out⟩
  have z1 : ((l.length : Int) == 0) = false := beq_eq_false_iff_ne.2 (by omega)
  have z2 : (l.length == 0) = false := beq_eq_false_iff_ne.2 hz0
  by_cases hcG : G < 1 + q
  · go_wp2_with fail
    go_ret
    exact ⟨rfl, below_step HB.out HB2.out⟩
  have HRn : Aside0 (Rnd M G l 0 0 0 0 0 0) := ⟨rnd_first HF.out HD.out (by omega)⟩
  have HZ1 := Aside0.mk (Kd.C_below hz.out HB.out)
  clear c7 c2
  have c7 := (blk_cell BC.out 7).trans (show _ = some (Value.slice A7 l.length k7) from rfl)
  have c2 := (blk_cell BC.out 2).trans (show _ = some (Value.int IntKind.i64 G) from rfl)
  go_wp2_with fail
  clear hq c7 c2 BC
  go_loopw [9, 10, 11] (fun sg si sk wr => ∃ (jj i K : Nat) (gt ins last : Int), sg = .int .i64 gt ∧ si = .int .i64 ins ∧ sk = .int .i64 K ∧ Aside0 (Rnd M G l jj i K gt ins last) ∧ Aside0 (Outs wr p M G l last) ∧ Aside0 (Below w1.heap.size w1 wr)) (fun _ _ sk _ => 4 * l.length - (intOf sk).toNat)
  case atStart => exact ⟨0, 0, 0, 0, 0, 0, rfl, rfl, rfl, HRn, HO, HB2⟩
  case round =>
    clear HRn HO HB2
    obtain ⟨jj, i, K, gt, ins, last, rfl, rfl, rfl, HRn, HO, HBr⟩ := hrel
    have BCr := Aside0.mk ((HBr.out.block w.heap.size (blk_lt B1.out)).trans B1.out)
    have c7 := (blk_cell BCr.out 7).trans (show _ = some (Value.slice A7 l.length k7) from rfl)
    have hKb := rnd_K HRn.out
    obtain ⟨i0, i1⟩ := rnd_ins HRn.out HF.out
    have gt0 := HRn.out.g2
    have gt1 : gt ≤ 4294967296 := by
      have := HRn.out.g1
      omega
    by_cases hlt : jj < 4
    · have hil := HRn.out.hi
      obtain ⟨kk1, kk2⟩ := hKb
      have hKlt := kk1 hlt
      clear kk1 kk2
      have d1 : decide ((K : Int) < 4 * (l.length : Int)) = true := decide_eq_true (by omega)
      have HNE := Aside0.mk (fun gt' h1 h2 h3 => rnd_next HRn.out HF.out HD.out hlt (gt' := gt') h1 h2 h3)
      have WW := Aside0.mk (win_of (G := G) HF.out HD.out (show (0 : Int) ≤ (jj : Int) by omega) (by omega) hil G0 G1)
      have HNX := Aside0.mk HRn.out.inv.1
      have hls := HRn.out.inv.2
      have hl0 := HRn.out.l0
      have hy2 := (HF.out.2.2.2 _ (gd_mem hil)).2.2
      have hz3 : i = 0 → (gd l 0).f2 = (gd l i).f2 := fun h => by rw [h]
      generalize (gd l 0).f2 = y0 at *
      generalize (jj : Int) * M + (gd l i).f1 = s at *
      generalize (gd l i).f2 = y at *
      generalize hBB : max 0 (y - 40 - G) = B at *
      generalize hbg : s + min 40 y = bg at *
      have HBB := Aside0.mk hBB
      have Hbg := Aside0.mk hbg
      have HZ3 := Aside0.mk hz3
      have s0 := WW.out.s0
      have s1 := WW.out.s1
      obtain ⟨y1, y2⟩ : 1 ≤ y ∧ y ≤ 16777216 := by
        have := HF.out.2.1
        have := (HF.out.2.2.2 _ (gd_mem hil)).1
        exact ⟨WW.out.y1, by omega⟩
      clear hBB hbg hz3 hy2 HRn
      go_wp2_with fail
      refine (enter_live WW.out HO.out HNX.out hl0 hls).mono ?_
      rintro e w3 ⟨rfl, hI, hM⟩
      have HB3 := Aside0.mk (HO.out.newer HN1.out HBr.out hM)
      have HI3 := Aside0.mk hI
      have c0 := clk_live hI
      have BC3 := Aside0.mk ((HB3.out.block w.heap.size (blk_lt B1.out)).trans B1.out)
      clear hI hM c7 BCr HO HBr hls hl0
      have c7 := (blk_cell BC3.out 7).trans (show _ = some (Value.slice A7 l.length k7) from rfl)
      obtain ⟨ad, hA, hx0, hx1, hx2⟩ := at_T45 (Kd.C_below HC1.out HB3.out) (i : Int) (by omega) (by omega)
      rw [WW.out.hy] at hx2
      rw [Int.toNat_natCast] at hx0 hx1 hx2
      subst hA
      have d2 : decide ((l.length : Int) ≤ (i : Int)) = false := decide_eq_false (by omega)
      have d3 : decide (l.length ≤ i) = false := decide_eq_false (by omega)
      have d4 : decide ((i : Int) < 0) = false := decide_eq_false (by omega)
      have hsy : y < 40 ∧ bg = s + y ∨ ¬ y < 40 ∧ bg = s + 40 := by
        have := Hbg.out
        omega
      go_wp2_with fail
      go_cut [15] (fun s15 wx => s15 = .int .i64 s ∧ ∃ m, wx = w3.drewN m)
      case first =>
        rcases hsy with ⟨hy40, hb⟩ | ⟨hy40, hb⟩
        · have e1 : IntKind.i64.wrap (bg - y) = s := (i64_w _).trans ((w64 (by omega) (by omega)).trans (by omega))
          clear hb
          go_quiet ((go_at_call 10; exact Calls.quiet_of_same (now_live0 (HI3.out.drewN _))))
          go_wp2_with fail
          go_meet
          exact ⟨rfl, _, rfl⟩
        · have e1 : IntKind.i64.wrap (bg - 40) = s := (i64_w _).trans ((w64 (by omega) (by omega)).trans (by omega))
          clear hb
          go_quiet ((go_at_call 10; exact Calls.quiet_of_same (now_live0 (HI3.out.drewN _))))
          go_wp2_with fail
          go_meet
          exact ⟨rfl, _, rfl⟩
      case rest =>
        obtain ⟨rfl, m, hw⟩ := hcut
        have HI4 : Aside0 (Ins wc p M G l jj i bg B 0 last) := ⟨by rw [hw]; exact HI3.out.drewN m⟩
        have HB4 : Aside0 (Below w1.heap.size w1 wc) := ⟨by rw [hw]; exact pw_below_drewN HB3.out m⟩
        clear hw c0 c7 hx0 hx1 hx2 HI3 HB3 BC3 hsy d2 d3 d4
        generalize wc = w4 at *
        by_cases hi0 : i = 0
        · have e0 : ((i : Int) == 0) = true := by simp [hi0]
          have e00 : (i == 0) = true := by simp [hi0]
          have hy0 : y0 = y := HZ3.out hi0
          have hB0 : max 0 (y0 - 40 - G) = B := by rw [hy0, HBB.out]
          have HB0 := Aside0.mk hB0
          clear hy0 hB0 hi0
          go_wp2_with fail
          go_loopw [9, 16] (fun sg sn wr => ∃ (n2 : Nat) (u gt' : Int), sg = .int .i64 gt' ∧ sn = .int .i64 n2 ∧ n2 ≤ 16384 ∧ Aside0 (gt' = gt + u) ∧ Aside0 (Use y u) ∧ Aside0 (Ins wr p M G l jj i bg B u last) ∧ Aside0 (Below w1.heap.size w1 wr)) (fun _ sn _ => 16384 - (intOf sn).toNat)
          case atStart => exact ⟨0, 0, gt, rfl, rfl, by omega, ⟨by omega⟩, ⟨⟨by omega, by omega⟩⟩, HI4, HB4⟩
          case round =>
            clear HI4 HB4
            obtain ⟨n2, u, gt', rfl, rfl, hn2, HGT, HU, HI, HB5⟩ := hrel
            have hgb : 0 ≤ gt' ∧ gt' ≤ 8589934592 := by
              have h1 := HGT.out
              have h2 := HU.out
              unfold Use at h2
              omega
            obtain ⟨hg0, hg1⟩ := hgb
            have HGG : Aside0 (¬ u < B → (gt ≤ gt' ∧ gt' ≤ gt + 16777216 ∧ (i = 0 → gt + max 0 (y0 - 40 - G) ≤ gt'))) := ⟨fun hu => by
              have h1 := HGT.out
              have h2 := HU.out
              rw [HB0.out]
              unfold Use at h2
              omega⟩
            by_cases hn : n2 < 16384
            · by_cases hu : u < B
              · have hsp : spE B u G (1 + q) = 0 ∧ spU B u G (1 + q) = u + (1 + q) := by
                  unfold spE spU
                  rw [if_neg (by omega), if_neg (by omega), if_neg (by omega), if_neg (by omega)]
                  exact ⟨rfl, rfl⟩
                have HSP := Aside0.mk hsp
                have HU2 : Aside0 (Use y (u + (1 + q))) := ⟨by
                  have := use_sp WW.out HU.out (1 + q)
                  rwa [hsp.2] at this⟩
                clear hsp
                go_wp2_with fail
                refine (may_live HI.out).mono ?_
                rw [decide_eq_true (show u < B by omega)]
                rintro e wm ⟨rfl, m, rfl⟩
                go_wp2_with fail
                refine (spend_live WW.out (HI.out.drewN m) HU.out (1 + q)).mono ?_
                rw [HSP.out.1, HSP.out.2]
                rintro e wn ⟨rfl, hI, hM⟩
                have HI2 := Aside0.mk hI
                have HB6 := Aside0.mk ((HI.out.drewN m).newer HN1.out (pw_below_drewN HB5.out m) hM)
                clear hI hM
                go_wp2_with fail
                go_roundw
                case rel => exact ⟨n2 + 1, u + (1 + q), gt' + (1 + q), rfl, by go_num, by omega, ⟨by have := HGT.out; omega⟩, HU2, HI2, HB6⟩
                case measure =>
                  simp [intOf]
                  omega
              · have HGH := Aside0.mk (HGG.out (by omega))
                go_wp2_with fail
                refine (may_live HI.out).mono ?_
                rw [decide_eq_false (show ¬ u < B by omega)]
                rintro e wm ⟨rfl, m, hw⟩
                have HI6 : Aside0 (Ins wm p M G l jj i bg B u last) := ⟨by rw [hw]; exact HI.out.drewN m⟩
                have HB6 : Aside0 (Below w1.heap.size w1 wm) := ⟨by rw [hw]; exact pw_below_drewN HB5.out m⟩
                clear hw
                go_wp2_with fail
                refine (may_live HI6.out).mono ?_
                rw [decide_eq_false (show ¬ u < B by omega)]
                rintro e wk ⟨rfl, m2, hw⟩
                have HI : Aside0 (Ins wk p M G l jj i bg B u last) := ⟨by rw [hw]; exact HI6.out.drewN m2⟩
                have HB5 : Aside0 (Below w1.heap.size w1 wk) := ⟨by rw [hw]; exact pw_below_drewN HB6.out m2⟩
                clear hw HI6 HB6
                go_wp2_with fail
                refine (leave_live WW.out HI.out HU.out).mono ?_
                rintro e wl ⟨rfl, hO, hM⟩
                have HB6 := Aside0.mk (HI.out.newer HN1.out HB5.out hM)
                have HO6 := Aside0.mk hO
                clear hO hM
                go_wp2_with fail
                obtain ⟨jj', i', hR⟩ := HNE.out gt' HGH.out.1 HGH.out.2.1 HGH.out.2.2
                go_roundw
                case rel => exact ⟨jj', i', K + 1, gt', ins + y, s + y, rfl, congrArg (Value.int IntKind.i64) (by omega), by go_num, ⟨hR⟩, HO6, HB6⟩
                case measure =>
                  simp [intOf]
                  omega
            · have e16 : n2 = 16384 := by omega
              subst e16
              by_cases hu : u < B
              · go_wp2_with fail
                refine (may_live HI.out).mono ?_
                rw [decide_eq_true (show u < B by omega)]
                rintro e wm ⟨rfl, m, hw⟩
                have HB6 : Aside0 (Below w1.heap.size w1 wm) := ⟨by rw [hw]; exact pw_below_drewN HB5.out m⟩
                clear hw
                go_wp2_with fail
                go_ret
                exact ⟨rfl, below_step HB.out HB6.out⟩
              · have HGH := Aside0.mk (HGG.out (by omega))
                go_wp2_with fail
                refine (may_live HI.out).mono ?_
                rw [decide_eq_false (show ¬ u < B by omega)]
                rintro e wk ⟨rfl, m2, hw⟩
                have HI : Aside0 (Ins wk p M G l jj i bg B u last) := ⟨by rw [hw]; exact HI.out.drewN m2⟩
                have HB5 : Aside0 (Below w1.heap.size w1 wk) := ⟨by rw [hw]; exact pw_below_drewN HB5.out m2⟩
                clear hw
                go_wp2_with fail
                refine (leave_live WW.out HI.out HU.out).mono ?_
                rintro e wl ⟨rfl, hO, hM⟩
                have HB6 := Aside0.mk (HI.out.newer HN1.out HB5.out hM)
                have HO6 := Aside0.mk hO
                clear hO hM
                go_wp2_with fail
                obtain ⟨jj', i', hR⟩ := HNE.out gt' HGH.out.1 HGH.out.2.1 HGH.out.2.2
                go_roundw
                case rel => exact ⟨jj', i', K + 1, gt', ins + y, s + y, rfl, congrArg (Value.int IntKind.i64) (by omega), by go_num, ⟨hR⟩, HO6, HB6⟩
                case measure =>
                  simp [intOf]
                  omega
        · have e0 : ((i : Int) == 0) = false := beq_eq_false_iff_ne.2 (by omega)
          have e00 : (i == 0) = false := beq_eq_false_iff_ne.2 hi0
          have BC4 := Aside0.mk ((HB4.out.block w.heap.size (blk_lt B1.out)).trans B1.out)
          have c2 := (blk_cell BC4.out 2).trans (show _ = some (Value.int IntKind.i64 G) from rfl)
          go_wp2_with fail
          refine (idles_calls WW HI4 ⟨⟨by omega, by omega⟩⟩ HN1 HB4 A zs cz HZ1 K).mono ?_
          rintro e wn ⟨rfl, u, hu, hI, hM⟩
          have HU := Aside0.mk hu
          have HI := Aside0.mk hI
          have HB5 := Aside0.mk (HI4.out.newer HN1.out HB4.out hM)
          clear hu hI hM c2 BC4 HI4 HB4
          have hgg : gt ≤ gt ∧ gt ≤ gt + 16777216 ∧ (i = 0 → gt + max 0 (y0 - 40 - G) ≤ gt) := ⟨by omega, by omega, fun h => absurd h hi0⟩
          have HGH := Aside0.mk hgg
          clear hgg
          go_wp2_with fail
          refine (leave_live WW.out HI.out HU.out).mono ?_
          rintro e wl ⟨rfl, hO, hM⟩
          have HB6 := Aside0.mk (HI.out.newer HN1.out HB5.out hM)
          have HO6 := Aside0.mk hO
          clear hO hM
          go_wp2_with fail
          obtain ⟨jj', i', hR⟩ := HNE.out gt HGH.out.1 HGH.out.2.1 HGH.out.2.2
          go_roundw
          case rel => exact ⟨jj', i', K + 1, gt, ins + y, s + y, rfl, congrArg (Value.int IntKind.i64) (by omega), by go_num, ⟨hR⟩, HO6, HB6⟩
          case measure =>
            simp [intOf]
            omega
    · obtain ⟨kk1, kk2⟩ := hKb
      have hKq := kk2 hlt
      clear kk1 kk2
      have h00 : 0 < l.length := by omega
      have j4 : jj = 4 := by
        have := HRn.out.hj
        omega
      have i4 : i = 0 := HRn.out.h4 j4
      have hg := HRn.out.g0
      have hs := HRn.out.hs
      rw [i4, j4] at hg hs
      have hg4 : 4 * max 0 ((gd l 0).f2 - 40 - G) ≤ gt := by
        unfold cnt at hg
        rw [if_pos rfl] at hg
        omega
      have hs4 : ins = 4 * pre l l.length := by
        simp only [pre] at hs
        omega
      have HS4 := Aside0.mk hs4
      obtain ⟨P0, P1⟩ := pre_bd HF.out l.length (Nat.le_refl _)
      have hF2 := HF.out
      have hyb := HF.out.2.2.2 _ (gd_mem h00)
      have d1 : decide ((K : Int) < 4 * (l.length : Int)) = false := decide_eq_false (by omega)
      have c2 := (blk_cell BCr.out 2).trans (show _ = some (Value.int IntKind.i64 G) from rfl)
      obtain ⟨ad, hA, hx0, hx1, hx2⟩ := at_T45 (Kd.C_below HC1.out HBr.out) ((0 : Nat) : Int) (by omega) (by omega)
      rw [rd_gd] at hx2
      generalize hY : (gd l 0).f2 = y0 at *
      have y1 : 1 ≤ y0 := by omega
      have y2 : y0 ≤ 16777216 := by omega
      clear hY hg hs hs4 j4 i4 hKq hyb hF2
      have hx3 := hx2
      rw [Int.toNat_natCast, Nat.zero_mul] at hx2
      subst hA
      have hx4 : wr.cell? ⟨ad.block, ad.off + 2, none⟩ = some (.int .i64 y0) := hx2
      clear hx0 hx1
      have d2 : decide ((l.length : Int) ≤ 0) = false := decide_eq_false (by omega)
      have d3 : decide (l.length ≤ 0) = false := decide_eq_false (by omega)
      go_wp2_with fail
      go_cut [18, 19] (fun s18 s19 wx => s18 = .int .i64 (4 * max 0 (y0 - 40 - G)) ∧ s19 = .int .i64 0 ∧ ∃ m, wx = wr.drewN m)
      case first =>
        have e1 : IntKind.i64.wrap (y0 - 40) = y0 - 40 := (i64_w _).trans (w64 (by omega) (by omega))
        have e2 : IntKind.i64.wrap (y0 - 40 - G) = y0 - 40 - G := (i64_w _).trans (w64 (by omega) (by omega))
        by_cases hb : 0 < y0 - 40 - G
        · have e3 : IntKind.i64.wrap (4 * (y0 - 40 - G)) = 4 * (y0 - 40 - G) := (i64_w _).trans (w64 (by omega) (by omega))
          have e4 : max 0 (y0 - 40 - G) = y0 - 40 - G := by omega
          have E4 := Aside0.mk e4
          clear e4
          go_quiet (fail)
          go_wp2_with fail
          go_meet
          exact ⟨congrArg (Value.int IntKind.i64) (by have := E4.out; omega), rfl, _, rfl⟩
        · have e3 : IntKind.i64.wrap (4 * 0) = 0 := rfl
          have e4 : max 0 (y0 - 40 - G) = 0 := by omega
          have E4 := Aside0.mk e4
          clear e4
          go_quiet (fail)
          go_wp2_with fail
          go_meet
          exact ⟨congrArg (Value.int IntKind.i64) (by have := E4.out; omega), rfl, _, rfl⟩
      case rest =>
        obtain ⟨rfl, rfl, m, hw⟩ := hcut
        have HB4 : Aside0 (Below w1.heap.size w1 wc) := ⟨by rw [hw]; exact pw_below_drewN HBr.out m⟩
        have BC4 := Aside0.mk ((HB4.out.block w.heap.size (blk_lt B1.out)).trans B1.out)
        clear hw c7 c2 hx2 hx3 hx4 d1 d2 d3 HBr BCr HO HRn
        have c7 := (blk_cell BC4.out 7).trans (show _ = some (Value.slice (some ad) l.length k7) from rfl)
        generalize hT : 4 * max 0 (y0 - 40 - G) = T at *
        have T0 : 0 ≤ T := by omega
        clear hT
        generalize wc = w4 at *
        have HL := Aside0.mk (Kd.C_below HC1.out HB4.out)
        go_wp2_with fail
        go_loop [19, 20] (fun sa sk => ∃ n : Nat, sk = .int .i64 n ∧ n ≤ l.length ∧ sa = .int .i64 (pre l n)) (fun _ sk => l.length - (intOf sk).toNat)
        case atStart => exact ⟨0, rfl, by omega, rfl⟩
        case round =>
          obtain ⟨n, rfl, hn, rfl⟩ := hrel
          obtain ⟨Q0, Q1⟩ := pre_bd HF.out n hn
          by_cases hlt : n < l.length
          · obtain ⟨ad2, hA, hx0, hx1, hx2⟩ := at_T45 HL.out (n : Int) (by omega) (by omega)
            rw [rd_gd] at hx2
            rw [Int.toNat_natCast] at hx2
            obtain rfl : ad = ad2 := by simpa using hA
            have HPS : Aside0 (pre l n + (gd l n).f2 = pre l (n + 1)) := ⟨rfl⟩
            have hyb := HF.out.2.2.2 _ (gd_mem hlt)
            have y1 : 1 ≤ (gd l n).f2 := hyb.2.2.1
            have y2 : (gd l n).f2 ≤ 16777216 := by omega
            clear hyb hA hx0 hx1
            generalize (gd l n).f2 = y at *
            generalize pre l n = u at *
            have d1 : decide ((n : Int) < (l.length : Int)) = true := decide_eq_true (by omega)
            have d2 : decide ((l.length : Int) ≤ (n : Int)) = false := decide_eq_false (by omega)
            have d3 : decide (n < l.length) = true := decide_eq_true hlt
            go_wp2_with fail
            go_round
            case rel => exact ⟨n + 1, by go_num, by omega, congrArg (Value.int IntKind.i64) HPS.out⟩
            case measure =>
              simp [intOf]
              omega
          · obtain rfl : n = l.length := by omega
            have d1 : decide ((l.length : Int) < (l.length : Int)) = false := decide_eq_false (by omega)
            have HS4' := HS4.out
            generalize pre l l.length = u at *
            have d2 : decide (T ≤ gt) = true := decide_eq_true (by omega)
            have d3 : (ins == 4 * u) = true := by
              rw [beq_iff_eq]
              exact HS4'
            clear HS4'
            go_wp2_with fail
            go_ret
            exact ⟨rfl, below_step HB.out HB4.out⟩
theorem walk (x0 M G x3 x4 x5 : Int) (A6 : Option Addr) (n6 k6 : Nat) (A7 : Option Addr) (n7 k7 : Nat) (X : Nat → Nat → Int) (A8 : Option Addr) (n8 k8 : Nat) (cost : Int) (a2 : Option Addr) (len2 cap2 : Nat) (z2 : List Int) (w : World) (h : AidRows.Recs w A7 n7 [.i64, .i64, .i64] X) (hn : n7 * 24 ≤ 140737488351232)
    (_ : (Lit.int .i64 cost).wf = true) (w2 : (a2 = none ∧ len2 = 0 ∧ cap2 = 0 ∧ z2 = []) ∨ ∃ x, a2 = some x ∧ len2 ≤ cap2 ∧ cap2 ≤ maxLen ∧ z2.length = cap2 ∧ (∀ i, i < z2.length → w.cell? (x.add i) = some (.int .i64 (z2.getD i 0))) ∧ ∀ n ∈ z2, (Lit.int .i64 n).wf = true) (_ : len2 * 8 ≤ 140737488351232) :
    Calls Try.prog 3 #[.agg #[.int .i64 x0, .int .i64 M, .int .i64 G, .int .i64 x3, .int .i64 x4, .int .i64 x5, .slice A6 n6 k6, .slice A7 n7 k7, .slice A8 n8 k8], .int .i64 cost, .slice a2 len2 cap2] w fun e w' => e = .returned (.bool true) ∧ Below w.heap.size w w' := by
  obtain ⟨zs, rfl, hr, hm, hw, hc⟩ := ReadsInt.ofRowC w2
  have := shares x0 M G x3 x4 x5 A6 A7 A8 n6 k6 k7 n8 k8 (PlanRec.wins n7 X) cost a2 zs cap2 w (PlanRec.wins_row h hn) (PlanRec.wins_bound h) ⟨Kd.C_of_reads (d := (0 : Int)) (h1 := fun _ => rfl) hr⟩
  rwa [PlanRec.wins_length] at this
end Go.Proofs.Ytagnlbpndldfeaa.SLawShares
