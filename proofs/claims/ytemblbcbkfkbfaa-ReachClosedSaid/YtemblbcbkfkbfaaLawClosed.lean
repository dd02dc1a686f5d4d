/- The least set that nothing reaches from outside: the walk of the law. -/
import Derived.Test.YtemblbcbkfkbfaaReachTouch
import Derived.Test.YtemblbcbkfkbfaaReachRecG
import Derived.BigQuiet
import Derived.Deep.DeepCutAuto
namespace Go.Proofs.Ytemblbcbkfkbfaa.LawClosed
open Go.RowKit Go.Maps Go.Proofs.Ytemblbcbkfkbfaa.PReachGrows Go.Proofs.YtemblbcbkfkbfaaW.PrintWords Go.Proofs.YtemblbcbkfkbfaaW.PrintLast Go.Proofs.YtemblbcbkfkbfaaW.PrintMore Go.Proofs.Ytemblbcbkfkbfaa.ReachPlainG Go.Proofs.Ytemblbcbkfkbfaa.ReachOutG Go.Proofs.Ytemblbcbkfkbfaa.ReachWorks Go.Proofs.Ytemblbcbkfkbfaa.ReachMap Go.Proofs.Ytemblbcbkfkbfaa.Aid Go.Proofs.Ytemblbcbkfkbfaa.ReachTouch
set_option linter.unusedVariables false
set_option linter.unusedSimpArgs false
set_option maxRecDepth 100000
theorem rd_memi {l : List Int} {i : Nat} (h : i < l.length) : rd l (i : Int) ∈ l := by
  have : rd l (i : Int) = l[i] := by simp [rd, h]
  rw [this]
  exact List.getElem_mem h
def has (l : List Int) (p : Int) : Bool := decide (p ∈ l)
theorem has_take {l : List Int} {k : Nat} (h : k < l.length) : has (l.take (k + 1)) = fun p => has (l.take k) p || p == rd l (k : Int) := by
  funext p
  have e : rd l (k : Int) = l[k] := by simp [rd, h]
  unfold has
  rw [List.take_succ_eq_append_getElem h, e, Bool.eq_iff_iff]
  simp only [decide_eq_true_eq, List.mem_append, List.mem_singleton, Bool.or_eq_true, beq_iff_eq]
theorem has_zero (l : List Int) : has (l.take 0) = fun _ => false := by
  funext p
  simp [has]
theorem out_pair (n : Nat) (s : Int → Bool) : (outB n s).Pairwise (· < ·) := by
  unfold outB
  rw [List.pairwise_map]
  refine (List.Pairwise.filter _ List.pairwise_lt_range).imp fun {a b} h => ?_
  omega
theorem out_rise {n : Nat} {s : Int → Bool} {i : Nat} (h : i + 1 < (outB n s).length) : rd (outB n s) (i : Int) < rd (outB n s) ((i + 1 : Nat) : Int) := by
  have h1 := List.pairwise_iff_getElem.1 (out_pair n s) i (i + 1) (by omega) h (by omega)
  have e1 : rd (outB n s) (i : Int) = (outB n s)[i] := by
    have : i < (outB n s).length := by omega
    simp [rd, this]
  have e2 : rd (outB n s) ((i + 1 : Nat) : Int) = (outB n s)[i + 1] := by simp [rd, h]
  rw [e1, e2]
  exact h1
theorem MapIs.congr {w : World} {b n : Nat} {s t : Int → Bool} (h : MapIs w b n s) (e : ∀ p, s p = t p) : MapIs w b n t := by
  have : s = t := funext e
  rwa [this] at h
theorem has_least {n : Nat} {cs : List S31} {q : Int} {s : Int → Bool} (h : Least n cs q (fun p => s p = true)) (p : Int) : has (outB n s) p = s p := by
  unfold has
  rw [Bool.eq_iff_iff]
  simp only [decide_eq_true_eq]
  rw [outB_mem]
  exact ⟨fun a => a.2, fun a => ⟨h.1.2.1 p a, a⟩⟩
theorem out_sub {n : Nat} {cs : List S31} {q x : Int} {s : Int → Bool} {r2 : List Int} (h : Least n cs q (fun p => s p = true)) (hx : s x = true) (ho : out n cs x r2) : ∀ p ∈ r2, s p = true := by
  obtain ⟨t, h1, rfl⟩ := ho.2 (h.1.2.1 x hx)
  intro p hp
  rw [outB_mem] at hp
  exact h1.1.2.2 (fun p => s p = true) hx h.1.2.1 h.2 p hp.2
theorem wf_in {n : Nat} (hn : n ≤ 1000) {p : Int} (h : inR n p) : (Lit.int .i64 p).wf = true := by
  unfold inR at h
  exact WalkArith.wf_i64 (by omega)
set_option maxHeartbeats 1600000 in
theorem many (x0 x1 x2 x3 x4 x5 : Int) (A6 A7 A8 : Option Addr) (n6 k6 n7 k7 k8 : Nat) (cs : List S31) (q : Int) (w : World) (h : Aside0 (40 < n6 ∨ 60 < cs.length)) :
    Calls Try.prog 4 #[.agg #[.int .i64 x0, .int .i64 x1, .int .i64 x2, .int .i64 x3, .int .i64 x4, .int .i64 x5, .slice A6 n6 k6, .slice A7 n7 k7, .slice A8 cs.length k8], .int .i64 q] w fun e w' => e = .returned (.bool true) ∧ Below w.heap.size w w' := by
  have key : Aside0 ((w.alloc (.cells #[.int .i64 x0, .int .i64 x1, .int .i64 x2, .int .i64 x3, .int .i64 x4, .int .i64 x5, .slice A6 n6 k6, .slice A7 n7 k7, .slice A8 cs.length k8] 26)).heap[w.heap.size]? = some (.cells #[.int .i64 x0, .int .i64 x1, .int .i64 x2, .int .i64 x3, .int .i64 x4, .int .i64 x5, .slice A6 n6 k6, .slice A7 n7 k7, .slice A8 cs.length k8] 26 (0, 0))) := ⟨blk_new _ _⟩
  have HB1 : Aside0 (Below w.heap.size w (w.alloc (.cells #[.int .i64 x0, .int .i64 x1, .int .i64 x2, .int .i64 x3, .int .i64 x4, .int .i64 x5, .slice A6 n6 k6, .slice A7 n7 k7, .slice A8 cs.length k8] 26))) := ⟨by repeat (first | exact Below.refl _ _ | apply below_alloc)⟩
  go_enter Try.func4, Try.ntmps4
  go_wp2_with fail
  refine (works_calls _).mono ?_
  rintro e w1 ⟨rfl, hB⟩
  have c6 : w1.cell? ⟨w.heap.size, 6, none⟩ = some (.slice A6 n6 k6) := ((hB.cell (p := ⟨w.heap.size, 6, none⟩) (blk_lt key.out)).trans (blk_cell key.out 6)).trans rfl
  have c8 : w1.cell? ⟨w.heap.size, 8, none⟩ = some (.slice A8 cs.length k8) := ((hB.cell (p := ⟨w.heap.size, 8, none⟩) (blk_lt key.out)).trans (blk_cell key.out 8)).trans rfl
  have HE := Aside0.mk (below_step HB1.out hB)
  clear hB key HB1
  by_cases c : 40 < n6
  · go_wp2
    go_ret
    exact ⟨rfl, HE.out⟩
  · have c2 : 60 < cs.length := by
      have := h.out
      omega
    go_wp2
    go_ret
    exact ⟨rfl, HE.out⟩
set_option maxHeartbeats 6400000 in
theorem few (x0 x1 x2 x3 x4 x5 : Int) (A6 A7 A8 : Option Addr) (n6 k6 n7 k7 k8 : Nat) (cs : List S31) (q : Int) (w : World) (hn : n6 ≤ 40) (hcl : cs.length ≤ 60) (H8 : Aside0 (Kd.C k31 w A8 cs.length cs)) (HW : Aside0 (∀ x ∈ cs, (Lit.int .i64 x.f1).wf = true ∧ (Lit.int .i64 x.f2).wf = true)) (HQW : Aside0 ((Lit.int .i64 q).wf = true)) :
    Calls Try.prog 4 #[.agg #[.int .i64 x0, .int .i64 x1, .int .i64 x2, .int .i64 x3, .int .i64 x4, .int .i64 x5, .slice A6 n6 k6, .slice A7 n7 k7, .slice A8 cs.length k8], .int .i64 q] w fun e w' => e = .returned (.bool true) ∧ Below w.heap.size w w' := by
  obtain ⟨CF, hCF⟩ : ∃ CF : Array Value, CF = #[.int .i64 x0, .int .i64 x1, .int .i64 x2, .int .i64 x3, .int .i64 x4, .int .i64 x5, .slice A6 n6 k6, .slice A7 n7 k7, .slice A8 cs.length k8] := ⟨_, rfl⟩
  have HCF := Aside0.mk hCF
  clear hCF
  have BC0 : Aside0 ((w.alloc (.cells CF 26)).heap[w.heap.size]? = some (.cells CF 26 (0, 0))) := ⟨blk_new _ _⟩
  have HB0 : Aside0 (Below w.heap.size w (w.alloc (.cells CF 26))) := ⟨by repeat (first | exact Below.refl _ _ | apply below_alloc)⟩
  go_enter Try.func4, Try.ntmps4
  go_wp2_with fail
  rw [← HCF.out]
  refine (works_calls _).mono ?_
  rintro e w1 ⟨rfl, hB⟩
  have BC := Aside0.mk ((hB.block _ (blk_lt BC0.out)).trans BC0.out)
  have HB := Aside0.mk (below_step HB0.out hB)
  clear hB BC0 HB0
  have d1 : decide ((40 : Int) < (n6 : Int)) = false := decide_eq_false (by omega)
  have d2 : decide (40 < n6) = false := decide_eq_false (by omega)
  have d3 : decide ((60 : Int) < (cs.length : Int)) = false := decide_eq_false (by omega)
  have d4 : decide (60 < cs.length) = false := decide_eq_false (by omega)
  have H81 := Aside0.mk (Kd.C_below H8.out HB.out)
  have HX0 := Aside0.mk (Below.refl w1.heap.size w1)
  have cc0 : w1.cell? ⟨w.heap.size, 0, none⟩ = some (.int .i64 x0) := ((HX0.out.cell (p := ⟨w.heap.size, 0, none⟩) (blk_lt BC.out)).trans (blk_cell BC.out 0)).trans (by rw [HCF.out]; rfl)
  have cc1 : w1.cell? ⟨w.heap.size, 1, none⟩ = some (.int .i64 x1) := ((HX0.out.cell (p := ⟨w.heap.size, 1, none⟩) (blk_lt BC.out)).trans (blk_cell BC.out 1)).trans (by rw [HCF.out]; rfl)
  have cc2 : w1.cell? ⟨w.heap.size, 2, none⟩ = some (.int .i64 x2) := ((HX0.out.cell (p := ⟨w.heap.size, 2, none⟩) (blk_lt BC.out)).trans (blk_cell BC.out 2)).trans (by rw [HCF.out]; rfl)
  have cc3 : w1.cell? ⟨w.heap.size, 3, none⟩ = some (.int .i64 x3) := ((HX0.out.cell (p := ⟨w.heap.size, 3, none⟩) (blk_lt BC.out)).trans (blk_cell BC.out 3)).trans (by rw [HCF.out]; rfl)
  have cc4 : w1.cell? ⟨w.heap.size, 4, none⟩ = some (.int .i64 x4) := ((HX0.out.cell (p := ⟨w.heap.size, 4, none⟩) (blk_lt BC.out)).trans (blk_cell BC.out 4)).trans (by rw [HCF.out]; rfl)
  have cc5 : w1.cell? ⟨w.heap.size, 5, none⟩ = some (.int .i64 x5) := ((HX0.out.cell (p := ⟨w.heap.size, 5, none⟩) (blk_lt BC.out)).trans (blk_cell BC.out 5)).trans (by rw [HCF.out]; rfl)
  have cc6 : w1.cell? ⟨w.heap.size, 6, none⟩ = some (.slice A6 n6 k6) := ((HX0.out.cell (p := ⟨w.heap.size, 6, none⟩) (blk_lt BC.out)).trans (blk_cell BC.out 6)).trans (by rw [HCF.out]; rfl)
  have cc7 : w1.cell? ⟨w.heap.size, 7, none⟩ = some (.slice A7 n7 k7) := ((HX0.out.cell (p := ⟨w.heap.size, 7, none⟩) (blk_lt BC.out)).trans (blk_cell BC.out 7)).trans (by rw [HCF.out]; rfl)
  have cc8 : w1.cell? ⟨w.heap.size, 8, none⟩ = some (.slice A8 cs.length k8) := ((HX0.out.cell (p := ⟨w.heap.size, 8, none⟩) (blk_lt BC.out)).trans (blk_cell BC.out 8)).trans (by rw [HCF.out]; rfl)
  go_wp2_with fail
  refine (prog_calls x0 x1 x2 x3 x4 x5 A6 A7 A8 n6 k6 n7 k7 k8 cs q _ (by omega) (by omega) H81.out).mono ?_
  rintro e w2 ⟨v, r, rfl, ho, hR, hB⟩
  obtain ⟨A, c, rfl, hcx, hCx⟩ := Kd.R_reads hR
  have HO := Aside0.mk ho
  have HC := Aside0.mk hCx
  have HX := Aside0.mk hB
  have hlen := out_len ho
  clear ho hR hCx hcx hB cc0 cc1 cc2 cc3 cc4 cc5 cc6 cc7 cc8 d1 d2 d3 d4
  have cc6 : w2.cell? ⟨w.heap.size, 6, none⟩ = some (.slice A6 n6 k6) := ((HX.out.cell (p := ⟨w.heap.size, 6, none⟩) (blk_lt BC.out)).trans (blk_cell BC.out 6)).trans (by rw [HCF.out]; rfl)
  by_cases hin : inR n6 q
  · obtain ⟨s, hs, hrs⟩ := HO.out.2 hin
    have q0 : 0 ≤ q := hin.1
    have q1 : q < (n6 : Int) := hin.2
    have d1 : decide (q < 0) = false := decide_eq_false (by omega)
    have d2 : decide ((n6 : Int) ≤ q) = false := decide_eq_false (by omega)
    subst hrs
    obtain ⟨r, hr⟩ : ∃ r, outB n6 s = r := ⟨_, rfl⟩
    have HS := Aside0.mk hs
    have HRR := Aside0.mk hr
    have HSW : Aside0 (∀ p, s p = true → (Lit.int .i64 p).wf = true) := ⟨fun p hp => wf_in (by omega) (hs.1.2.1 p hp)⟩
    have HRS : Aside0 (∀ p, p ∈ r ↔ s p = true) := ⟨fun p => by
      rw [← hr, outB_mem]
      exact ⟨fun a => a.2, fun a => ⟨hs.1.2.1 p a, a⟩⟩⟩
    have HUP : Aside0 (∀ i : Nat, i + 1 < r.length → rd r (i : Int) < rd r ((i + 1 : Nat) : Int)) := ⟨fun i hi => by
      rw [← hr] at hi ⊢
      exact out_rise hi⟩
    rw [hr] at hlen HC ⊢
    have HQS : Aside0 (s q = true) := ⟨hs.1.1⟩
    clear hs hr hin HO
    have hmm := @run_makeMap Try.prog
    go_upto_region 9 with fail
    clear hmm d1 d2
    have HM0 : Aside0 (MapIs (w2.alloc (.map #[] 0)) w2.heap.size 0 (has (r.take 0))) := ⟨by rw [has_zero]; exact MapIs.made w2⟩
    have HB2 : Aside0 (Below w2.heap.size w2 (w2.alloc (.map #[] 0))) := ⟨below_alloc (Below.refl _ _) _⟩
    clear cc6
    generalize w2.alloc (.map #[] 0) = W3 at *
    go_wp2_with fail
    go_loopw [7] (fun u wr => ∃ i : Nat, i ≤ r.length ∧ u = .int .i64 i ∧ Aside0 (MapIs wr w2.heap.size i (has (r.take i))) ∧ Aside0 (Below w2.heap.size w2 wr)) (fun u _ => r.length - (intOf u).toNat)
    case atStart => exact ⟨0, by omega, rfl, HM0, HB2⟩
    case round =>
      clear HM0 HB2
      obtain ⟨i, hi, rfl, HM, HB2⟩ := hrel
      by_cases hlt : i < r.length
      · obtain ⟨x, hx⟩ : ∃ x, rd r (i : Int) = x := ⟨_, rfl⟩
        obtain ⟨ad, hA, hcx⟩ := Kd.at_int HC.out (i : Int) (by omega) (by omega)
        rw [Int.toNat_natCast, hx] at hcx
        have hsx : s x = true := (HRS.out x).1 (by rw [← hx]; exact rd_memi hlt)
        obtain ⟨w', hrun, hm', hg'⟩ := HM.out.put (by omega) (HSW.out x hsx)
        have hbel := pw_below_grown HB2.out _ HB2.out.size hg' (fun k e => by
          injection e with e
          omega)
        have HM2 : Aside0 (MapIs w' w2.heap.size (i + 1) (has (r.take (i + 1)))) := ⟨by
          rw [has_take hlt, hx]
          exact hm'⟩
        have HB3 := Aside0.mk hbel
        have hcr := pw_cell_below HB2.out hcx
        have hcx' := pw_cell_below hbel hcx
        subst hA
        have i0 : (0 : Int) ≤ (i : Int) := by omega
        have i1 : (i : Int) < (r.length : Int) := by omega
        by_cases c0 : i = 0
        · have t0 : decide ((0 : Int) < (i : Int)) = false := decide_eq_false (by omega)
          have t1 : decide (0 < i) = false := decide_eq_false (by omega)
          clear hx hsx hm' hg' hbel c0 HM HB2
          go_wp2_with fail
          go_quiet (fail)
          go_wp2_with fail
          go_roundw
          case rel => exact ⟨i + 1, by omega, by go_num, ⟨HM2.out.below (by repeat (first | exact Below.refl _ _ | apply pw_below_drewN | apply below_drew1))⟩, ⟨by repeat (first | exact HB3.out | apply pw_below_drewN | apply below_drew1)⟩⟩
          case measure =>
            simp [intOf]
            omega
        · have t0 : decide ((0 : Int) < (i : Int)) = true := decide_eq_true (by omega)
          have t1 : decide (0 < i) = true := decide_eq_true (by omega)
          obtain ⟨y, hy⟩ : ∃ y, rd r ((i - 1 : Nat) : Int) = y := ⟨_, rfl⟩
          obtain ⟨ad2, hA2, hcy⟩ := Kd.at_int HC.out ((i - 1 : Nat) : Int) (by omega) (by omega)
          rw [Int.toNat_natCast, hy] at hcy
          injection hA2 with hA2
          subst hA2
          have hup := HUP.out (i - 1) (by omega)
          rw [hy, show i - 1 + 1 = i by omega, hx] at hup
          have t2 : decide (x ≤ y) = false := decide_eq_false (by omega)
          have hcy' := pw_cell_below hbel hcy
          have i2 : (0 : Int) ≤ (i : Int) - 1 := by omega
          have i3 : (i : Int) - 1 < (r.length : Int) := by omega
          have i4 : (1 : Int) ≤ (i : Int) := by omega
          have e4 : ((i : Int) - 1).toNat = i - 1 := by omega
          clear hx hsx hm' hg' hbel c0 HM HB2 hy hup
          go_wp2_with fail
          go_quiet (fail)
          go_wp2_with fail
          go_roundw
          case rel => exact ⟨i + 1, by omega, by go_num, ⟨HM2.out.below (by repeat (first | exact Below.refl _ _ | apply pw_below_drewN | apply below_drew1))⟩, ⟨by repeat (first | exact HB3.out | apply pw_below_drewN | apply below_drew1)⟩⟩
          case measure =>
            simp [intOf]
            omega
      · have HMS : Aside0 (MapIs wr w2.heap.size i s) := ⟨MapIs.congr HM.out (fun p => by
          rw [List.take_of_length_le (by omega)]
          unfold has
          rw [Bool.eq_iff_iff]
          simp only [decide_eq_true_eq]
          exact HRS.out p)⟩
        have HX3 := Aside0.mk (below_step HX.out HB2.out)
        have HC3 := Aside0.mk (Kd.C_below HC.out HB2.out)
        have lq := HMS.out.look HQW.out
        rw [HQS.out] at lq
        clear HM HB2 HX HC
        go_wp2_with fail
        clear lq hi hlt
        obtain ⟨W4, rfl⟩ : ∃ W : World, W = wr := ⟨_, rfl⟩
        go_loopw [8] (fun u wx => ∃ i : Nat, i ≤ cs.length ∧ u = .int .i64 i ∧ Aside0 (Below W4.heap.size W4 wx)) (fun u _ => cs.length - (intOf u).toNat)
        case atStart => exact ⟨0, by omega, rfl, ⟨Below.refl _ _⟩⟩
        case round =>
          obtain ⟨i, hi, rfl, HBx⟩ := hrel
          have HXX := Aside0.mk (below_step HX3.out HBx.out)
          have cc6 : wr.cell? ⟨w.heap.size, 6, none⟩ = some (.slice A6 n6 k6) := ((HXX.out.cell (p := ⟨w.heap.size, 6, none⟩) (blk_lt BC.out)).trans (blk_cell BC.out 6)).trans (by rw [HCF.out]; rfl)
          have cc8 : wr.cell? ⟨w.heap.size, 8, none⟩ = some (.slice A8 cs.length k8) := ((HXX.out.cell (p := ⟨w.heap.size, 8, none⟩) (blk_lt BC.out)).trans (blk_cell BC.out 8)).trans (by rw [HCF.out]; rfl)
          by_cases hlt : i < cs.length
          · obtain ⟨ad, hA, hx0, hx1, hx2, hx3, hx4⟩ := at_T31 (Kd.C_below H81.out HXX.out) (i : Int) (by omega) (by omega)
            rw [Int.toNat_natCast] at hx0 hx1 hx2 hx3 hx4
            have HRU := Aside0.mk (HS.out.2 _ (ReachWalkG.rd_in cs hlt))
            obtain ⟨hw1, hw2⟩ := HW.out _ (ReachWalkG.rd_in cs hlt)
            obtain ⟨X, hX⟩ : ∃ X, rd_T31 cs (i : Int) = X := ⟨_, rfl⟩
            rw [hX] at hx0 hx1 hx2 hx3 hx4 hw1 hw2 HRU
            obtain ⟨y0, y1, y2, y3, y4⟩ := X
            have HW1 := Aside0.mk hw1
            have HW2 := Aside0.mk hw2
            subst hA
            clear hX hw1 hw2
            go_upto_region 21 with fail
            clear hx0 hx1 hx2 hx3 hx4
            have hl6 := blk_lt (blk_below BC.out HXX.out)
            go_cut [10, 11] (fun s10 s11 wc => s10 = .bool (decide (inR n6 y1)) ∧ s11 = .bool (decide (inR n6 y2)) ∧ ∃ m, wc = (wr.alloc (.cells #[.int .i64 y0, .int .i64 y1, .int .i64 y2, .int .i64 y3, .int .i64 y4] 31)).drewN m)
            case first =>
              have k1 : (decide (0 ≤ y1) = false ∧ decide (inR n6 y1) = false) ∨ (decide (0 ≤ y1) = true ∧ decide (y1 < (n6 : Int)) = decide (inR n6 y1)) := by
                by_cases a : 0 ≤ y1
                · exact .inr ⟨decide_eq_true a, by unfold inR; simp [a]⟩
                · exact .inl ⟨decide_eq_false a, decide_eq_false fun h => a h.1⟩
              have k2 : (decide (0 ≤ y2) = false ∧ decide (inR n6 y2) = false) ∨ (decide (0 ≤ y2) = true ∧ decide (y2 < (n6 : Int)) = decide (inR n6 y2)) := by
                by_cases a : 0 ≤ y2
                · exact .inr ⟨decide_eq_true a, by unfold inR; simp [a]⟩
                · exact .inl ⟨decide_eq_false a, decide_eq_false fun h => a h.1⟩
              obtain ⟨F, hF⟩ : ∃ F, decide (inR n6 y1) = F := ⟨_, rfl⟩
              obtain ⟨G, hG⟩ : ∃ G, decide (inR n6 y2) = G := ⟨_, rfl⟩
              rw [hF] at k1
              rw [hG] at k2
              have HF := Aside0.mk hF
              have HG := Aside0.mk hG
              clear hF hG
              rcases k1 with ⟨k1, rfl⟩ | ⟨k1, k1'⟩ <;> rcases k2 with ⟨k2, rfl⟩ | ⟨k2, k2'⟩
              all_goals
                go_quiet (fail)
                go_wp2_with fail
                go_meet
                refine ⟨?_, ?_, _, rfl⟩
                · rw [HF.out]
                · rw [HG.out]
            case rest =>
              obtain ⟨rfl, rfl, m, rfl⟩ := hcut
              have HB5 : Aside0 (Below W4.heap.size W4 ((wr.alloc (.cells #[.int .i64 y0, .int .i64 y1, .int .i64 y2, .int .i64 y3, .int .i64 y4] 31)).drewN m)) := ⟨pw_below_drewN (below_alloc HBx.out _) _⟩
              have B5 : Aside0 (((wr.alloc (.cells #[.int .i64 y0, .int .i64 y1, .int .i64 y2, .int .i64 y3, .int .i64 y4] 31)).drewN m).heap[wr.heap.size]? = some (.cells #[.int .i64 y0, .int .i64 y1, .int .i64 y2, .int .i64 y3, .int .i64 y4] 31 (0, 0))) := ⟨blk_drewN (blk_new _ _) _⟩
              generalize (wr.alloc (.cells #[.int .i64 y0, .int .i64 y1, .int .i64 y2, .int .i64 y3, .int .i64 y4] 31)).drewN m = W5 at *
              have b0 : W5.cell? ⟨wr.heap.size, 0, none⟩ = some (.int .i64 y0) := (blk_cell B5.out 0).trans rfl
              have b1 : W5.cell? ⟨wr.heap.size, 1, none⟩ = some (.int .i64 y1) := (blk_cell B5.out 1).trans rfl
              have b2 : W5.cell? ⟨wr.heap.size, 2, none⟩ = some (.int .i64 y2) := (blk_cell B5.out 2).trans rfl
              have l1 := (HMS.out.below HB5.out).look HW1.out
              have l2 := (HMS.out.below HB5.out).look HW2.out
              have r1 : inR n6 y1 → s y2 = true → s y1 = true := fun a b => HRU.out.1 b a
              have r2 : inR n6 y2 → y0 = 2 → s y1 = true → s y2 = true := fun a b c => HRU.out.2 b c a
              obtain ⟨F, hF⟩ : ∃ F, decide (inR n6 y1) = F := ⟨_, rfl⟩
              obtain ⟨G, hG⟩ : ∃ G, decide (inR n6 y2) = G := ⟨_, rfl⟩
              obtain ⟨M1, hM1⟩ : ∃ M, s y1 = M := ⟨_, rfl⟩
              obtain ⟨M2, hM2⟩ : ∃ M, s y2 = M := ⟨_, rfl⟩
              obtain ⟨k0, hk0⟩ : ∃ k, (y0 == 2) = k := ⟨_, rfl⟩
              rw [hF, hG]
              rw [hM1] at l1 r1 r2
              rw [hM2] at l2 r1 r2
              have e1 : F = true → M2 = true → M1 = true := fun a b => r1 (of_decide_eq_true (hF.trans a)) b
              have e2 : G = true → k0 = true → M1 = true → M2 = true := fun a b c => r2 (of_decide_eq_true (hG.trans a)) (beq_iff_eq.1 (hk0.trans b)) c
              clear r1 r2 hF hG hM1 hM2 hl6 cc6 cc8
              cases F
              · skip
                cases G
                · skip
                  clear e1 e2
                  go_wp2_with fail
                  go_roundw
                  case rel => exact ⟨i + 1, by omega, by go_num, HB5⟩
                  case measure =>
                    simp [intOf]
                    omega
                · cases k0
                  · skip
                    clear e1 e2
                    go_wp2_with fail
                    go_roundw
                    case rel => exact ⟨i + 1, by omega, by go_num, HB5⟩
                    case measure =>
                      simp [intOf]
                      omega
                  · cases M1
                    · skip
                      clear e1 e2
                      go_wp2_with fail
                      go_roundw
                      case rel => exact ⟨i + 1, by omega, by go_num, HB5⟩
                      case measure =>
                        simp [intOf]
                        omega
                    · obtain rfl := e2 rfl rfl rfl
                      clear e1 e2
                      go_wp2_with fail
                      go_roundw
                      case rel => exact ⟨i + 1, by omega, by go_num, HB5⟩
                      case measure =>
                        simp [intOf]
                        omega
              · cases M2
                · skip
                  cases G
                  · skip
                    clear e1 e2
                    go_wp2_with fail
                    go_roundw
                    case rel => exact ⟨i + 1, by omega, by go_num, HB5⟩
                    case measure =>
                      simp [intOf]
                      omega
                  · cases k0
                    · skip
                      clear e1 e2
                      go_wp2_with fail
                      go_roundw
                      case rel => exact ⟨i + 1, by omega, by go_num, HB5⟩
                      case measure =>
                        simp [intOf]
                        omega
                    · cases M1
                      · skip
                        clear e1 e2
                        go_wp2_with fail
                        go_roundw
                        case rel => exact ⟨i + 1, by omega, by go_num, HB5⟩
                        case measure =>
                          simp [intOf]
                          omega
                      · exact absurd (e2 rfl rfl rfl) (by decide)
                · obtain rfl := e1 rfl rfl
                  cases G
                  · skip
                    clear e1 e2
                    go_wp2_with fail
                    go_roundw
                    case rel => exact ⟨i + 1, by omega, by go_num, HB5⟩
                    case measure =>
                      simp [intOf]
                      omega
                  · cases k0
                    · skip
                      clear e1 e2
                      go_wp2_with fail
                      go_roundw
                      case rel => exact ⟨i + 1, by omega, by go_num, HB5⟩
                      case measure =>
                        simp [intOf]
                        omega
                    · skip
                      clear e1 e2
                      go_wp2_with fail
                      go_roundw
                      case rel => exact ⟨i + 1, by omega, by go_num, HB5⟩
                      case measure =>
                        simp [intOf]
                        omega
          · go_wp2_with fail
            clear cc6 cc8 hi hlt
            have HB9 := Aside0.mk HBx.out
            clear HBx HXX
            go_loopw [12] (fun u wx => ∃ i : Nat, i ≤ r.length ∧ u = .int .i64 i ∧ Aside0 (Below W4.heap.size W4 wx)) (fun u _ => r.length - (intOf u).toNat)
            case atStart => exact ⟨0, by omega, rfl, HB9⟩
            case round =>
              clear HB9
              obtain ⟨i, hi, rfl, HBx⟩ := hrel
              by_cases hlt : i < r.length
              · obtain ⟨x, hx⟩ : ∃ x, rd r (i : Int) = x := ⟨_, rfl⟩
                obtain ⟨ad, hA, hcx⟩ := Kd.at_int HC3.out (i : Int) (by omega) (by omega)
                rw [Int.toNat_natCast, hx] at hcx
                have hsx : s x = true := (HRS.out x).1 (by rw [← hx]; exact rd_memi hlt)
                have HSX := Aside0.mk hsx
                have HCX := Aside0.mk (pw_cell_below HBx.out hcx)
                subst hA
                have i0 : (0 : Int) ≤ (i : Int) := by omega
                have i1 : (i : Int) < (r.length : Int) := by omega
                clear hx hcx hsx
                obtain ⟨W5, rfl⟩ : ∃ W : World, W = wr := ⟨_, rfl⟩
                go_wp2_with fail
                have Hs0 := Aside0.mk (below_drew1 (Below.refl W5.heap.size W5))
                refine start_ (n := 7) (S := fun w' => Below W5.heap.size W5 w') (ds := []) #[false, false, false, false, false, false, false] (by kernel_rfl) rfl rfl Hs0.out (fun hs => ?_)
                have Hs := Aside0.mk hs
                clear hs Hs0
                refine take_ (i := 0) (N := some 147) (v := .agg #[.int .i64 x0, .int .i64 x1, .int .i64 x2, .int .i64 x3, .int .i64 x4, .int .i64 x5, .slice A6 n6 k6, .slice A7 n7 k7, .slice A8 cs.length k8]) #[true, false, false, false, false, false, false] rfl rfl (by kernel_rfl) (fun _ _ _ h => h) (Or.inl ⟨by rfl, ?_⟩) ?_ (a' := ?_) ?_ ?_
                · intro w' hS
                  have hx0 : w'.cell? ⟨w.heap.size, 0, none⟩ = some (.int .i64 x0) := ((hS.cell (p := ⟨w.heap.size, 0, none⟩) (Nat.lt_of_lt_of_le (blk_lt BC.out) (below_step HX3.out HBx.out).size)).trans (((below_step HX3.out HBx.out).cell (p := ⟨w.heap.size, 0, none⟩) (blk_lt BC.out)).trans (blk_cell BC.out 0))).trans (by rw [HCF.out]; rfl)
                  have hx1 : w'.cell? ⟨w.heap.size, 1, none⟩ = some (.int .i64 x1) := ((hS.cell (p := ⟨w.heap.size, 1, none⟩) (Nat.lt_of_lt_of_le (blk_lt BC.out) (below_step HX3.out HBx.out).size)).trans (((below_step HX3.out HBx.out).cell (p := ⟨w.heap.size, 1, none⟩) (blk_lt BC.out)).trans (blk_cell BC.out 1))).trans (by rw [HCF.out]; rfl)
                  have hx2 : w'.cell? ⟨w.heap.size, 2, none⟩ = some (.int .i64 x2) := ((hS.cell (p := ⟨w.heap.size, 2, none⟩) (Nat.lt_of_lt_of_le (blk_lt BC.out) (below_step HX3.out HBx.out).size)).trans (((below_step HX3.out HBx.out).cell (p := ⟨w.heap.size, 2, none⟩) (blk_lt BC.out)).trans (blk_cell BC.out 2))).trans (by rw [HCF.out]; rfl)
                  have hx3 : w'.cell? ⟨w.heap.size, 3, none⟩ = some (.int .i64 x3) := ((hS.cell (p := ⟨w.heap.size, 3, none⟩) (Nat.lt_of_lt_of_le (blk_lt BC.out) (below_step HX3.out HBx.out).size)).trans (((below_step HX3.out HBx.out).cell (p := ⟨w.heap.size, 3, none⟩) (blk_lt BC.out)).trans (blk_cell BC.out 3))).trans (by rw [HCF.out]; rfl)
                  have hx4 : w'.cell? ⟨w.heap.size, 4, none⟩ = some (.int .i64 x4) := ((hS.cell (p := ⟨w.heap.size, 4, none⟩) (Nat.lt_of_lt_of_le (blk_lt BC.out) (below_step HX3.out HBx.out).size)).trans (((below_step HX3.out HBx.out).cell (p := ⟨w.heap.size, 4, none⟩) (blk_lt BC.out)).trans (blk_cell BC.out 4))).trans (by rw [HCF.out]; rfl)
                  have hx5 : w'.cell? ⟨w.heap.size, 5, none⟩ = some (.int .i64 x5) := ((hS.cell (p := ⟨w.heap.size, 5, none⟩) (Nat.lt_of_lt_of_le (blk_lt BC.out) (below_step HX3.out HBx.out).size)).trans (((below_step HX3.out HBx.out).cell (p := ⟨w.heap.size, 5, none⟩) (blk_lt BC.out)).trans (blk_cell BC.out 5))).trans (by rw [HCF.out]; rfl)
                  have hx6 : w'.cell? ⟨w.heap.size, 6, none⟩ = some (.slice A6 n6 k6) := ((hS.cell (p := ⟨w.heap.size, 6, none⟩) (Nat.lt_of_lt_of_le (blk_lt BC.out) (below_step HX3.out HBx.out).size)).trans (((below_step HX3.out HBx.out).cell (p := ⟨w.heap.size, 6, none⟩) (blk_lt BC.out)).trans (blk_cell BC.out 6))).trans (by rw [HCF.out]; rfl)
                  have hx7 : w'.cell? ⟨w.heap.size, 7, none⟩ = some (.slice A7 n7 k7) := ((hS.cell (p := ⟨w.heap.size, 7, none⟩) (Nat.lt_of_lt_of_le (blk_lt BC.out) (below_step HX3.out HBx.out).size)).trans (((below_step HX3.out HBx.out).cell (p := ⟨w.heap.size, 7, none⟩) (blk_lt BC.out)).trans (blk_cell BC.out 7))).trans (by rw [HCF.out]; rfl)
                  have hx8 : w'.cell? ⟨w.heap.size, 8, none⟩ = some (.slice A8 cs.length k8) := ((hS.cell (p := ⟨w.heap.size, 8, none⟩) (Nat.lt_of_lt_of_le (blk_lt BC.out) (below_step HX3.out HBx.out).size)).trans (((below_step HX3.out HBx.out).cell (p := ⟨w.heap.size, 8, none⟩) (blk_lt BC.out)).trans (blk_cell BC.out 8))).trans (by rw [HCF.out]; rfl)
                  go_simp
                · exact Hs.out
                rotate_left
                · simp only [Act.put, List.setIfInBounds_toArray, List.set_cons_zero, List.set_cons_succ]
                  rfl
                refine pure_ (i := 1) (N := some 148) (v := ?_) (a' := ?_) #[true, true, false, false, false, false, false] rfl rfl (by kernel_rfl) (fun _ _ _ h => h) (Or.inl ⟨by rfl, ?_⟩) ?_ ?_
                rotate_left
                · intro w'
                  go_simp
                  with_reducible rfl
                rotate_left
                · simp only [Act.put, List.setIfInBounds_toArray, List.set_cons_zero, List.set_cons_succ]
                  rfl
                refine pure_ (i := 2) (N := some 149) (v := ?_) (a' := ?_) #[true, true, true, false, false, false, false] rfl rfl (by kernel_rfl) (fun _ _ _ h => h) (Or.inl ⟨by rfl, ?_⟩) ?_ ?_
                rotate_left
                · intro w'
                  go_simp
                  with_reducible rfl
                rotate_left
                · simp only [Act.put, List.setIfInBounds_toArray, List.set_cons_zero, List.set_cons_succ]
                  rfl
                refine pure_ (i := 3) (N := some 150) (v := ?_) (a' := ?_) #[true, true, true, true, false, false, false] rfl rfl (by kernel_rfl) (fun _ _ _ h => h) (Or.inl ⟨by rfl, ?_⟩) ?_ ?_
                rotate_left
                · intro w'
                  go_simp
                  with_reducible rfl
                rotate_left
                · simp only [Act.put, List.setIfInBounds_toArray, List.set_cons_zero, List.set_cons_succ]
                  rfl
                refine take_ (i := 4) (N := some 151) (v := .int .i64 x) #[true, true, true, true, true, false, false] rfl rfl (by kernel_rfl) (fun _ _ _ h => h) (Or.inl ⟨by rfl, ?_⟩) ?_ (a' := ?_) ?_ ?_
                · intro w' hS
                  have hx := (hS.cell (World.block_lt_of_cell? W5 _ HCX.out)).trans HCX.out
                  go_simp
                · exact Hs.out
                rotate_left
                · simp only [Act.put, List.setIfInBounds_toArray, List.set_cons_zero, List.set_cons_succ]
                  rfl
                refine one_ (i := 5) (N := some 152) #[true, true, true, true, true, true, false] rfl rfl (by kernel_rfl) (by decide) (fun K hK => ?_)
                refine call_ 6 _ (by rfl) rfl (by go_simp; rfl) ?_
                refine (prog_calls x0 x1 x2 x3 x4 x5 A6 A7 A8 n6 k6 n7 k7 k8 cs x _ (by omega) (by omega) (Kd.C_below H81.out (below_step HX3.out (below_step HBx.out Hs.out)))).mono ?_
                rintro e wn ⟨v2, r2, rfl, ho, hR, hB⟩
                refine ⟨_, rfl, ?_⟩
                refine hK.out _ _ (below_step Hs.out hB) (fun hs => ?_)
                have HO2 := Aside0.mk ho
                have HR2 := Aside0.mk hR
                clear hK K hB ho hR Hs
                have Hs := Aside0.mk hs
                clear hs
                refine norm_ (a' := ?_) ?_ ?_
                rotate_left
                · show Act.put _ (some 152) _ = _
                  simp only [Act.put, List.setIfInBounds_toArray, List.set_cons_zero, List.set_cons_succ]
                  rfl
                refine pure_ (i := 6) (N := some 13) (v := ?_) (a' := ?_) #[true, true, true, true, true, true, true] rfl rfl (by kernel_rfl) (fun _ _ _ h => h) (Or.inl ⟨by rfl, ?_⟩) ?_ ?_
                rotate_left
                · intro w'
                  go_simp
                  with_reducible rfl
                rotate_left
                · simp only [Act.put, List.setIfInBounds_toArray, List.set_cons_zero, List.set_cons_succ]
                  rfl
                refine done_ (by kernel_rfl) ?_
                go_wp2_with fail
                obtain ⟨A2, c2, rfl, hc2, hC2⟩ := Kd.R_reads HR2.out
                have HC2 := Aside0.mk hC2
                have HSUB : Aside0 (∀ p ∈ r2, s p = true) := ⟨out_sub HS.out HSX.out HO2.out⟩
                have hl2 := out_len HO2.out
                have HB7 := Aside0.mk (below_step HBx.out Hs.out)
                have HCXb := Aside0.mk (pw_cell_below Hs.out HCX.out)
                clear hC2 hc2 HR2 HO2
                obtain ⟨W7, hW7⟩ : ∃ W : World, W = wn := ⟨_, rfl⟩
                subst hW7
                go_loopw [14] (fun u wx => ∃ k : Nat, k ≤ r2.length ∧ u = .int .i64 k ∧ Aside0 (Below W7.heap.size W7 wx)) (fun u _ => r2.length - (intOf u).toNat)
                case atStart => exact ⟨0, by omega, rfl, ⟨Below.refl _ _⟩⟩
                case round =>
                  obtain ⟨k, hk, rfl, HBy⟩ := hrel
                  have HBB := Aside0.mk (below_step HB7.out HBy.out)
                  by_cases hkl : k < r2.length
                  · obtain ⟨y, hy⟩ : ∃ y, rd r2 (k : Int) = y := ⟨_, rfl⟩
                    obtain ⟨ady, hAy, hcy⟩ := Kd.at_int (Kd.C_below HC2.out HBy.out) (k : Int) (by omega) (by omega)
                    rw [Int.toNat_natCast, hy] at hcy
                    have hsy : s y = true := HSUB.out y (by rw [← hy]; exact rd_memi hkl)
                    have ly := (HMS.out.below HBB.out).look (HSW.out y hsy)
                    rw [hsy] at ly
                    subst hAy
                    have k0 : (0 : Int) ≤ (k : Int) := by omega
                    have k1 : (k : Int) < (r2.length : Int) := by omega
                    clear hy hsy
                    go_wp2_with fail
                    go_roundw
                    case rel => exact ⟨k + 1, by omega, by go_num, HBy⟩
                    case measure =>
                      simp [intOf]
                      omega
                  · have HCXc := Aside0.mk (pw_cell_below HBy.out HCXb.out)
                    have HXX := Aside0.mk (below_step HX3.out HBB.out)
                    clear HCX HCXb HC2
                    by_cases hq : x = q
                    · have t : (x != q) = false := by
                        rw [bne_eq_false_iff_eq]
                        exact hq
                      have hcc := HCXc.out
                      clear hq
                      go_wp2_with fail
                      go_quiet (fail)
                      go_wp2_with fail
                      go_roundw
                      case rel => exact ⟨i + 1, by omega, by go_num, ⟨by repeat (first | exact HBB.out | apply pw_below_drewN | apply below_drew1)⟩⟩
                      case measure =>
                        simp [intOf]
                        omega
                    · have t : (x != q) = true := bne_iff_ne.2 hq
                      have HTT := Aside0.mk (least_touch HS.out HSX.out hq)
                      clear hq
                      go_wp2_with fail
                      have Hs0 := Aside0.mk (below_drew1 (Below.refl wr.heap.size wr))
                      refine start_ (n := 16) (S := fun w' => Below wr.heap.size wr w') (ds := []) #[false, false, false, false, false, false, false, false, false, false, false, false, false, false, false, false] (by kernel_rfl) rfl rfl Hs0.out (fun hs => ?_)
                      have Hs2 := Aside0.mk hs
                      clear hs Hs0
                      refine pure_ (i := 0) (N := some 166) (v := ?_) (a' := ?_) #[true, false, false, false, false, false, false, false, false, false, false, false, false, false, false, false] rfl rfl (by kernel_rfl) (fun _ _ _ h => h) (Or.inl ⟨by rfl, ?_⟩) ?_ ?_
                      rotate_left
                      · intro w'
                        go_simp
                        with_reducible rfl
                      rotate_left
                      · simp only [Act.put, List.setIfInBounds_toArray, List.set_cons_zero, List.set_cons_succ]
                        rfl
                      refine pure_ (i := 1) (N := some 167) (v := ?_) (a' := ?_) #[true, true, false, false, false, false, false, false, false, false, false, false, false, false, false, false] rfl rfl (by kernel_rfl) (fun _ _ _ h => h) (Or.inl ⟨by rfl, ?_⟩) ?_ ?_
                      rotate_left
                      · intro w'
                        go_simp
                        with_reducible rfl
                      rotate_left
                      · simp only [Act.put, List.setIfInBounds_toArray, List.set_cons_zero, List.set_cons_succ]
                        rfl
                      refine pure_ (i := 2) (N := some 168) (v := ?_) (a' := ?_) #[true, true, true, false, false, false, false, false, false, false, false, false, false, false, false, false] rfl rfl (by kernel_rfl) (fun _ _ _ h => h) (Or.inl ⟨by rfl, ?_⟩) ?_ ?_
                      rotate_left
                      · intro w'
                        go_simp
                        with_reducible rfl
                      rotate_left
                      · simp only [Act.put, List.setIfInBounds_toArray, List.set_cons_zero, List.set_cons_succ]
                        rfl
                      refine take_ (i := 3) (N := some 169) (v := .int .i64 x) #[true, true, true, true, false, false, false, false, false, false, false, false, false, false, false, false] rfl rfl (by kernel_rfl) (fun _ _ _ h => h) (Or.inl ⟨by rfl, ?_⟩) ?_ (a' := ?_) ?_ ?_
                      · intro w' hS
                        have hx := (hS.cell (World.block_lt_of_cell? wr _ HCXc.out)).trans HCXc.out
                        go_simp
                      · exact Hs2.out
                      rotate_left
                      · simp only [Act.put, List.setIfInBounds_toArray, List.set_cons_zero, List.set_cons_succ]
                        rfl
                      refine pure_ (i := 4) (N := some 170) (v := ?_) (a' := ?_) #[true, true, true, true, true, false, false, false, false, false, false, false, false, false, false, false] rfl rfl (by kernel_rfl) (fun _ _ _ h => h) (Or.inl ⟨by rfl, ?_⟩) ?_ ?_
                      rotate_left
                      · intro w'
                        go_simp
                        with_reducible rfl
                      rotate_left
                      · simp only [Act.put, List.setIfInBounds_toArray, List.set_cons_zero, List.set_cons_succ]
                        rfl
                      refine pure_ (i := 5) (N := some 171) (v := ?_) (a' := ?_) #[true, true, true, true, true, true, false, false, false, false, false, false, false, false, false, false] rfl rfl (by kernel_rfl) (fun _ _ _ h => h) (Or.inl ⟨by rfl, ?_⟩) ?_ ?_
                      rotate_left
                      · intro w'
                        go_simp
                        with_reducible rfl
                      rotate_left
                      · simp only [Act.put, List.setIfInBounds_toArray, List.set_cons_zero, List.set_cons_succ]
                        rfl
                      refine pure_ (i := 6) (N := some 172) (v := ?_) (a' := ?_) #[true, true, true, true, true, true, true, false, false, false, false, false, false, false, false, false] rfl rfl (by kernel_rfl) (fun _ _ _ h => h) (Or.inl ⟨by rfl, ?_⟩) ?_ ?_
                      rotate_left
                      · intro w'
                        go_simp
                        with_reducible rfl
                      rotate_left
                      · simp only [Act.put, List.setIfInBounds_toArray, List.set_cons_zero, List.set_cons_succ]
                        rfl
                      refine take_ (i := 7) (N := some 173) (v := .agg #[.int .i64 x0, .int .i64 x1, .int .i64 x2, .int .i64 x3, .int .i64 x4, .int .i64 x5, .slice A6 n6 k6, .slice A7 n7 k7, .slice A8 cs.length k8]) #[true, true, true, true, true, true, true, true, false, false, false, false, false, false, false, false] rfl rfl (by kernel_rfl) (fun _ _ _ h => h) (Or.inl ⟨by rfl, ?_⟩) ?_ (a' := ?_) ?_ ?_
                      · intro w' hS
                        have hx0 : w'.cell? ⟨w.heap.size, 0, none⟩ = some (.int .i64 x0) := ((hS.cell (p := ⟨w.heap.size, 0, none⟩) (Nat.lt_of_lt_of_le (blk_lt BC.out) HXX.out.size)).trans ((HXX.out.cell (p := ⟨w.heap.size, 0, none⟩) (blk_lt BC.out)).trans (blk_cell BC.out 0))).trans (by rw [HCF.out]; rfl)
                        have hx1 : w'.cell? ⟨w.heap.size, 1, none⟩ = some (.int .i64 x1) := ((hS.cell (p := ⟨w.heap.size, 1, none⟩) (Nat.lt_of_lt_of_le (blk_lt BC.out) HXX.out.size)).trans ((HXX.out.cell (p := ⟨w.heap.size, 1, none⟩) (blk_lt BC.out)).trans (blk_cell BC.out 1))).trans (by rw [HCF.out]; rfl)
                        have hx2 : w'.cell? ⟨w.heap.size, 2, none⟩ = some (.int .i64 x2) := ((hS.cell (p := ⟨w.heap.size, 2, none⟩) (Nat.lt_of_lt_of_le (blk_lt BC.out) HXX.out.size)).trans ((HXX.out.cell (p := ⟨w.heap.size, 2, none⟩) (blk_lt BC.out)).trans (blk_cell BC.out 2))).trans (by rw [HCF.out]; rfl)
                        have hx3 : w'.cell? ⟨w.heap.size, 3, none⟩ = some (.int .i64 x3) := ((hS.cell (p := ⟨w.heap.size, 3, none⟩) (Nat.lt_of_lt_of_le (blk_lt BC.out) HXX.out.size)).trans ((HXX.out.cell (p := ⟨w.heap.size, 3, none⟩) (blk_lt BC.out)).trans (blk_cell BC.out 3))).trans (by rw [HCF.out]; rfl)
                        have hx4 : w'.cell? ⟨w.heap.size, 4, none⟩ = some (.int .i64 x4) := ((hS.cell (p := ⟨w.heap.size, 4, none⟩) (Nat.lt_of_lt_of_le (blk_lt BC.out) HXX.out.size)).trans ((HXX.out.cell (p := ⟨w.heap.size, 4, none⟩) (blk_lt BC.out)).trans (blk_cell BC.out 4))).trans (by rw [HCF.out]; rfl)
                        have hx5 : w'.cell? ⟨w.heap.size, 5, none⟩ = some (.int .i64 x5) := ((hS.cell (p := ⟨w.heap.size, 5, none⟩) (Nat.lt_of_lt_of_le (blk_lt BC.out) HXX.out.size)).trans ((HXX.out.cell (p := ⟨w.heap.size, 5, none⟩) (blk_lt BC.out)).trans (blk_cell BC.out 5))).trans (by rw [HCF.out]; rfl)
                        have hx6 : w'.cell? ⟨w.heap.size, 6, none⟩ = some (.slice A6 n6 k6) := ((hS.cell (p := ⟨w.heap.size, 6, none⟩) (Nat.lt_of_lt_of_le (blk_lt BC.out) HXX.out.size)).trans ((HXX.out.cell (p := ⟨w.heap.size, 6, none⟩) (blk_lt BC.out)).trans (blk_cell BC.out 6))).trans (by rw [HCF.out]; rfl)
                        have hx7 : w'.cell? ⟨w.heap.size, 7, none⟩ = some (.slice A7 n7 k7) := ((hS.cell (p := ⟨w.heap.size, 7, none⟩) (Nat.lt_of_lt_of_le (blk_lt BC.out) HXX.out.size)).trans ((HXX.out.cell (p := ⟨w.heap.size, 7, none⟩) (blk_lt BC.out)).trans (blk_cell BC.out 7))).trans (by rw [HCF.out]; rfl)
                        have hx8 : w'.cell? ⟨w.heap.size, 8, none⟩ = some (.slice A8 cs.length k8) := ((hS.cell (p := ⟨w.heap.size, 8, none⟩) (Nat.lt_of_lt_of_le (blk_lt BC.out) HXX.out.size)).trans ((HXX.out.cell (p := ⟨w.heap.size, 8, none⟩) (blk_lt BC.out)).trans (blk_cell BC.out 8))).trans (by rw [HCF.out]; rfl)
                        go_simp
                      · exact Hs2.out
                      rotate_left
                      · simp only [Act.put, List.setIfInBounds_toArray, List.set_cons_zero, List.set_cons_succ]
                        rfl
                      refine pure_ (i := 8) (N := some 174) (v := ?_) (a' := ?_) #[true, true, true, true, true, true, true, true, true, false, false, false, false, false, false, false] rfl rfl (by kernel_rfl) (fun _ _ _ h => h) (Or.inl ⟨by rfl, ?_⟩) ?_ ?_
                      rotate_left
                      · intro w'
                        go_simp
                        with_reducible rfl
                      rotate_left
                      · simp only [Act.put, List.setIfInBounds_toArray, List.set_cons_zero, List.set_cons_succ]
                        rfl
                      refine pure_ (i := 9) (N := some 175) (v := ?_) (a' := ?_) #[true, true, true, true, true, true, true, true, true, true, false, false, false, false, false, false] rfl rfl (by kernel_rfl) (fun _ _ _ h => h) (Or.inl ⟨by rfl, ?_⟩) ?_ ?_
                      rotate_left
                      · intro w'
                        go_simp
                        with_reducible rfl
                      rotate_left
                      · simp only [Act.put, List.setIfInBounds_toArray, List.set_cons_zero, List.set_cons_succ]
                        rfl
                      refine pure_ (i := 10) (N := some 176) (v := ?_) (a' := ?_) #[true, true, true, true, true, true, true, true, true, true, true, false, false, false, false, false] rfl rfl (by kernel_rfl) (fun _ _ _ h => h) (Or.inl ⟨by rfl, ?_⟩) ?_ ?_
                      rotate_left
                      · intro w'
                        go_simp
                        with_reducible rfl
                      rotate_left
                      · simp only [Act.put, List.setIfInBounds_toArray, List.set_cons_zero, List.set_cons_succ]
                        rfl
                      refine take_ (i := 11) (N := some 177) (v := .int .i64 x) #[true, true, true, true, true, true, true, true, true, true, true, true, false, false, false, false] rfl rfl (by kernel_rfl) (fun _ _ _ h => h) (Or.inl ⟨by rfl, ?_⟩) ?_ (a' := ?_) ?_ ?_
                      · intro w' hS
                        have hx := (hS.cell (World.block_lt_of_cell? wr _ HCXc.out)).trans HCXc.out
                        go_simp
                      · exact Hs2.out
                      rotate_left
                      · simp only [Act.put, List.setIfInBounds_toArray, List.set_cons_zero, List.set_cons_succ]
                        rfl
                      refine pure_ (i := 12) (N := some 178) (v := ?_) (a' := ?_) #[true, true, true, true, true, true, true, true, true, true, true, true, true, false, false, false] rfl rfl (by kernel_rfl) (fun _ _ _ h => h) (Or.inl ⟨by rfl, ?_⟩) ?_ ?_
                      rotate_left
                      · intro w'
                        go_simp
                        with_reducible rfl
                      rotate_left
                      · simp only [Act.put, List.setIfInBounds_toArray, List.set_cons_zero, List.set_cons_succ]
                        rfl
                      refine one_ (i := 13) (N := some 179) #[true, true, true, true, true, true, true, true, true, true, true, true, true, true, false, false] rfl rfl (by kernel_rfl) (by decide) (fun K hK => ?_)
                      refine call_ 10 _ (by rfl) rfl (by go_simp; rfl) ?_
                      refine (touches_calls x0 x1 x2 x3 x4 x5 A6 A7 A8 n6 k6 n7 k7 k8 cs x w2.heap.size _ s _ (by omega) ⟨Kd.C_below H81.out (below_step HXX.out Hs2.out)⟩ ⟨HMS.out.below (below_step HBB.out Hs2.out)⟩ HW ⟨by obtain ⟨j, h1, h2⟩ := HTT.out; exact ⟨j, Nat.zero_le _, h1, h2⟩⟩).mono ?_
                      rintro e wm ⟨rfl, hB⟩
                      refine ⟨_, rfl, ?_⟩
                      refine hK.out _ _ (below_step Hs2.out hB) (fun hs => ?_)
                      clear hK K hB Hs2
                      have Hs2 := Aside0.mk hs
                      clear hs
                      refine norm_ (a' := ?_) ?_ ?_
                      rotate_left
                      · show Act.put _ (some 179) _ = _
                        simp only [Act.put, List.setIfInBounds_toArray, List.set_cons_zero, List.set_cons_succ]
                        rfl
                      refine pure_ (i := 14) (N := some 180) (v := ?_) (a' := ?_) #[true, true, true, true, true, true, true, true, true, true, true, true, true, true, true, false] rfl rfl (by kernel_rfl) (fun _ _ _ h => h) (Or.inl ⟨by rfl, ?_⟩) ?_ ?_
                      rotate_left
                      · intro w'
                        go_simp
                        with_reducible rfl
                      rotate_left
                      · simp only [Act.put, List.setIfInBounds_toArray, List.set_cons_zero, List.set_cons_succ]
                        rfl
                      refine pure_ (i := 15) (N := some 181) (v := ?_) (a' := ?_) #[true, true, true, true, true, true, true, true, true, true, true, true, true, true, true, true] rfl rfl (by kernel_rfl) (fun _ _ _ h => h) (Or.inl ⟨by rfl, ?_⟩) ?_ ?_
                      rotate_left
                      · intro w'
                        go_simp
                        with_reducible rfl
                      rotate_left
                      · simp only [Act.put, List.setIfInBounds_toArray, List.set_cons_zero, List.set_cons_succ]
                        rfl
                      refine done_ (by kernel_rfl) ?_
                      go_wp2_with fail
                      go_roundw
                      case rel => exact ⟨i + 1, by omega, by go_num, ⟨below_step HBB.out Hs2.out⟩⟩
                      case measure =>
                        simp [intOf]
                        omega
              · go_wp2_with fail
                go_ret
                exact ⟨rfl, below_step HB.out (below_step HX3.out HBx.out)⟩
  · have HE := Aside0.mk (below_step HB.out HX.out)
    have e := HO.out.1 hin
    subst e
    by_cases c0 : q < 0
    · go_wp2_with fail
      go_ret
      exact ⟨rfl, HE.out⟩
    · have c1 : (n6 : Int) ≤ q := by
        unfold inR at hin
        omega
      go_wp2_with fail
      go_ret
      exact ⟨rfl, HE.out⟩
theorem walk (x0 x1 x2 x3 x4 x5 : Int) (A6 : Option Addr) (n6 k6 : Nat) (A7 : Option Addr) (n7 k7 : Nat) (A8 : Option Addr) (n8 k8 : Nat) (X6 X7 X8 : Nat → Nat → Int) (q : Int) (w : World) (h6 : AidRows.Recs w A6 n6 [.i64, .i64, .i64] X6) (y6 : n6 * 24 ≤ 140737488351232) (e6 : n6 ≤ k6) (h7 : AidRows.Recs w A7 n7 [.i64, .i64, .i64] X7) (y7 : n7 * 24 ≤ 140737488351232) (e7 : n7 ≤ k7) (h8 : AidRows.Recs w A8 n8 [.i64, .i64, .i64, .i64, .i64] X8) (y8 : n8 * 40 ≤ 140737488351232) (e8 : n8 ≤ k8)
    (hq : (Lit.int .i64 q).wf = true) :
    Calls Try.prog 4 #[.agg #[.int .i64 x0, .int .i64 x1, .int .i64 x2, .int .i64 x3, .int .i64 x4, .int .i64 x5, .slice A6 n6 k6, .slice A7 n7 k7, .slice A8 n8 k8], .int .i64 q] w fun e w' => e = .returned (.bool true) ∧ Below w.heap.size w w' := by
  have hl := ReachRecG.chans_length n8 X8
  by_cases c : 40 < n6 ∨ 60 < n8
  · have := many x0 x1 x2 x3 x4 x5 A6 A7 A8 n6 k6 n7 k7 k8 (ReachRecG.chans n8 X8) q w ⟨by rw [hl]; exact c⟩
    rwa [hl] at this
  · have hw : ∀ x ∈ ReachRecG.chans n8 X8, (Lit.int .i64 x.f1).wf = true ∧ (Lit.int .i64 x.f2).wf = true := by
      intro x hx
      obtain ⟨i, hi, rfl⟩ := List.mem_map.1 hx
      obtain ⟨_, _, _, _, g1⟩ := h8 i 1 .i64 (List.mem_range.1 hi) rfl
      obtain ⟨_, _, _, _, g2⟩ := h8 i 2 .i64 (List.mem_range.1 hi) rfl
      exact ⟨g1, g2⟩
    have := few x0 x1 x2 x3 x4 x5 A6 A7 A8 n6 k6 n7 k7 k8 (ReachRecG.chans n8 X8) q w (by omega) (by rw [hl]; omega) ⟨ReachRecG.chans_row h8 (by omega)⟩ ⟨hw⟩ ⟨hq⟩
    rwa [hl] at this
end Go.Proofs.Ytemblbcbkfkbfaa.LawClosed
