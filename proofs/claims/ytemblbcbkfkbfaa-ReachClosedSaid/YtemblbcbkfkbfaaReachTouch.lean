/- Does a channel go from a partition into a set, or a queue from a set to it? -/
import Derived.Test.YtemblbcbkfkbfaaReachMap
import Derived.Test.YtemblbcbkfkbfaaReachWorks
import Derived.BigQuiet
namespace Go.Proofs.Ytemblbcbkfkbfaa.ReachTouch
open Go.RowKit Go.Maps Go.Proofs.Ytemblbcbkfkbfaa.PReachGrows Go.Proofs.YtemblbcbkfkbfaaW.PrintWords Go.Proofs.YtemblbcbkfkbfaaW.PrintLast Go.Proofs.YtemblbcbkfkbfaaW.PrintMore Go.Proofs.Ytemblbcbkfkbfaa.ReachPlainG Go.Proofs.Ytemblbcbkfkbfaa.ReachOutG Go.Proofs.Ytemblbcbkfkbfaa.ReachWorks Go.Proofs.Ytemblbcbkfkbfaa.ReachMap Go.Proofs.Ytemblbcbkfkbfaa.Aid
set_option linter.unusedVariables false
set_option linter.unusedSimpArgs false
set_option maxRecDepth 100000
def Touch (x : S31) (p : Int) (s : Int → Bool) : Prop := (x.f1 = p ∧ x.f2 ≠ p ∧ s x.f2 = true) ∨ (x.f0 = 2 ∧ x.f2 = p ∧ x.f1 ≠ p ∧ s x.f1 = true)
/-- Whoever is there, and is not the one, is touched. -/
theorem least_touch {n : Nat} {cs : List S31} {q : Int} {s : Int → Bool} (h : Least n cs q (fun p => s p = true)) {v : Int} (hv : s v = true) (hq : v ≠ q) : ∃ j : Nat, j < cs.length ∧ Touch (rd_T31 cs (j : Int)) v s := by
  refine Classical.byContradiction fun hno => ?_
  have key := h.1.2.2 (fun p => s p = true ∧ p ≠ v) ⟨h.1.1, fun e => hq e.symm⟩ (fun p hp => h.1.2.1 p hp.1) (fun x hx => ?_) v hv
  · exact key.2 rfl
  · obtain ⟨j, hj, rfl⟩ := List.getElem_of_mem hx
    have e : rd_T31 cs (j : Int) = cs[j] := by simp [rd_T31, hj]
    have hR := h.2 _ hx
    refine ⟨fun a b => ⟨hR.1 a.1 b, fun e1 => hno ⟨j, hj, ?_⟩⟩, fun k a b => ⟨hR.2 k a.1 b, fun e1 => hno ⟨j, hj, ?_⟩⟩⟩
    · rw [e]
      exact .inl ⟨e1, a.2, a.1⟩
    · rw [e]
      exact .inr ⟨k, e1, a.2, a.1⟩
theorem no_touch {x : S31} {p : Int} {s : Int → Bool} {cs : List S31} {i : Nat} (hx : rd_T31 cs (i : Int) = x) (h : ¬ Touch x p s) (ht : ∃ j : Nat, i ≤ j ∧ j < cs.length ∧ Touch (rd_T31 cs (j : Int)) p s) : ∃ j : Nat, i + 1 ≤ j ∧ j < cs.length ∧ Touch (rd_T31 cs (j : Int)) p s := by
  obtain ⟨j, h1, h2, h3⟩ := ht
  rcases Nat.lt_or_ge i j with c | c
  · exact ⟨j, c, h2, h3⟩
  · have e : j = i := by omega
    rw [e, hx] at h3
    exact absurd h3 h
set_option maxHeartbeats 3200000 in
theorem touches_calls (x0 x1 x2 x3 x4 x5 : Int) (A6 A7 A8 : Option Addr) (n6 k6 n7 k7 k8 : Nat) (cs : List S31) (p : Int) (bm n : Nat) (s : Int → Bool) (w : World) (hcl : cs.length ≤ 60) (H8 : Aside0 (Kd.C k31 w A8 cs.length cs)) (HM : Aside0 (MapIs w bm n s)) (HW : Aside0 (∀ x ∈ cs, (Lit.int .i64 x.f1).wf = true ∧ (Lit.int .i64 x.f2).wf = true)) (HT : Aside0 (∃ j : Nat, 0 ≤ j ∧ j < cs.length ∧ Touch (rd_T31 cs (j : Int)) p s)) :
    Calls Try.prog 10 #[.agg #[.int .i64 x0, .int .i64 x1, .int .i64 x2, .int .i64 x3, .int .i64 x4, .int .i64 x5, .slice A6 n6 k6, .slice A7 n7 k7, .slice A8 cs.length k8], .int .i64 p, .map (some bm)] w fun e w' => e = .returned (.bool true) ∧ Below w.heap.size w w' := by
  obtain ⟨CF, hCF⟩ : ∃ CF : Array Value, CF = #[.int .i64 x0, .int .i64 x1, .int .i64 x2, .int .i64 x3, .int .i64 x4, .int .i64 x5, .slice A6 n6 k6, .slice A7 n7 k7, .slice A8 cs.length k8] := ⟨_, rfl⟩
  have HCF := Aside0.mk hCF
  clear hCF
  have BC : Aside0 ((w.alloc (.cells CF 26)).heap[w.heap.size]? = some (.cells CF 26 (0, 0))) := ⟨blk_new _ _⟩
  have HB : Aside0 (Below w.heap.size w (w.alloc (.cells CF 26))) := ⟨by repeat (first | exact Below.refl _ _ | apply below_alloc)⟩
  have f8 : Aside0 (CF[8]? = some (.slice A8 cs.length k8)) := ⟨by rw [HCF.out]; rfl⟩
  rw [← HCF.out]
  go_enter Try.func10, Try.ntmps10
  go_wp2_with fail
  generalize w.alloc (.cells CF 26) = W0 at *
  go_loopw [7] (fun u wr => ∃ i : Nat, i ≤ cs.length ∧ u = .int .i64 i ∧ Aside0 (∃ j : Nat, i ≤ j ∧ j < cs.length ∧ Touch (rd_T31 cs (j : Int)) p s) ∧ Aside0 (Below W0.heap.size W0 wr)) (fun u _ => cs.length - (intOf u).toNat)
  case atStart => exact ⟨0, by omega, rfl, HT, ⟨Below.refl _ _⟩⟩
  case round =>
    clear HT
    obtain ⟨i, hi, rfl, HT, HR⟩ := hrel
    have hlt : i < cs.length := by
      obtain ⟨j, h1, h2, _⟩ := HT.out
      omega
    have HBW := Aside0.mk (below_step HB.out HR.out)
    have hcell8 := ((HR.out.cell (p := ⟨w.heap.size, 8, none⟩) (blk_lt BC.out)).trans (blk_cell BC.out 8)).trans f8.out
    obtain ⟨ad, hA, hx0, hx1, hx2, hx3, hx4⟩ := at_T31 (Kd.C_below H8.out HBW.out) (i : Int) (by omega) (by omega)
    rw [Int.toNat_natCast] at hx0 hx1 hx2 hx3 hx4
    obtain ⟨hw1, hw2⟩ := HW.out _ (ReachWalkG.rd_in cs hlt)
    obtain ⟨X, hX⟩ : ∃ X, rd_T31 cs (i : Int) = X := ⟨_, rfl⟩
    rw [hX] at hx0 hx1 hx2 hx3 hx4 hw1 hw2
    have HX := Aside0.mk hX
    subst hA
    obtain ⟨y0, y1, y2, y3, y4⟩ := X
    have l1 : ∀ o : Obj, (Instr.lookup 34 (.map (some bm)) (.int .i64 y1) false).run Try.prog (wr.alloc o) = .ok (.bool (s y1)) (wr.alloc o) := fun o => (HM.out.below (below_alloc HBW.out o)).look hw1
    have l2 : ∀ o : Obj, (Instr.lookup 34 (.map (some bm)) (.int .i64 y2) false).run Try.prog (wr.alloc o) = .ok (.bool (s y2)) (wr.alloc o) := fun o => (HM.out.below (below_alloc HBW.out o)).look hw2
    clear hX hw1 hw2
    by_cases a1 : y1 = p
    · subst a1
      by_cases b1 : y2 = y1
      · subst b1
        by_cases k0 : y0 = 2
        · subst k0
          have HT2 := Aside0.mk (no_touch HX.out (by
            unfold Touch
            simp) HT.out)
          clear HT
          go_wp2_with fail
          go_roundw
          case rel => exact ⟨i + 1, by omega, by go_num, HT2, ⟨below_alloc HR.out _⟩⟩
          case measure =>
            simp [intOf]
            omega
        · have t0 : (y0 == 2) = false := beq_eq_false_iff_ne.2 k0
          have HT2 := Aside0.mk (no_touch HX.out (by
            unfold Touch
            simp [k0]) HT.out)
          clear HT
          go_wp2_with fail
          go_roundw
          case rel => exact ⟨i + 1, by omega, by go_num, HT2, ⟨below_alloc HR.out _⟩⟩
          case measure =>
            simp [intOf]
            omega
      · have t1 : (y2 != y1) = true := bne_iff_ne.2 b1
        have t2 : (y2 == y1) = false := beq_eq_false_iff_ne.2 b1
        cases m2 : s y2
        · by_cases k0 : y0 = 2
          · subst k0
            rw [m2] at l2
            have HT2 := Aside0.mk (no_touch HX.out (by
              unfold Touch
              simp [m2, b1]) HT.out)
            clear HT
            go_wp2_with fail
            go_roundw
            case rel => exact ⟨i + 1, by omega, by go_num, HT2, ⟨below_alloc HR.out _⟩⟩
            case measure =>
              simp [intOf]
              omega
          · have t0 : (y0 == 2) = false := beq_eq_false_iff_ne.2 k0
            rw [m2] at l2
            have HT2 := Aside0.mk (no_touch HX.out (by
              unfold Touch
              simp [m2, b1, k0]) HT.out)
            clear HT
            go_wp2_with fail
            go_roundw
            case rel => exact ⟨i + 1, by omega, by go_num, HT2, ⟨below_alloc HR.out _⟩⟩
            case measure =>
              simp [intOf]
              omega
        · rw [m2] at l2
          go_wp2_with fail
          go_ret
          exact ⟨rfl, below_step HB.out (below_alloc HR.out _)⟩
    · have t1 : (y1 == p) = false := beq_eq_false_iff_ne.2 a1
      have t2 : (y1 != p) = true := bne_iff_ne.2 a1
      by_cases k0 : y0 = 2
      · subst k0
        by_cases b1 : y2 = p
        · subst b1
          cases m1 : s y1
          · rw [m1] at l1
            have HT2 := Aside0.mk (no_touch HX.out (by
              unfold Touch
              simp [m1, a1]) HT.out)
            clear HT
            go_wp2_with fail
            go_roundw
            case rel => exact ⟨i + 1, by omega, by go_num, HT2, ⟨below_alloc HR.out _⟩⟩
            case measure =>
              simp [intOf]
              omega
          · rw [m1] at l1
            go_wp2_with fail
            go_ret
            exact ⟨rfl, below_step HB.out (below_alloc HR.out _)⟩
        · have t3 : (y2 == p) = false := beq_eq_false_iff_ne.2 b1
          have HT2 := Aside0.mk (no_touch HX.out (by
            unfold Touch
            simp [a1, b1]) HT.out)
          clear HT
          go_wp2_with fail
          go_roundw
          case rel => exact ⟨i + 1, by omega, by go_num, HT2, ⟨below_alloc HR.out _⟩⟩
          case measure =>
            simp [intOf]
            omega
      · have t0 : (y0 == 2) = false := beq_eq_false_iff_ne.2 k0
        have HT2 := Aside0.mk (no_touch HX.out (by
          unfold Touch
          simp [a1, k0]) HT.out)
        clear HT
        go_wp2_with fail
        go_roundw
        case rel => exact ⟨i + 1, by omega, by go_num, HT2, ⟨below_alloc HR.out _⟩⟩
        case measure =>
          simp [intOf]
          omega
end Go.Proofs.Ytemblbcbkfkbfaa.ReachTouch
