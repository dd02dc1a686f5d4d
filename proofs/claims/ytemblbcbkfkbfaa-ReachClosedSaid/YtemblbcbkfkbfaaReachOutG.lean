/- What Reach comes to, as the laws ask it. -/
import Derived.Test.YtemblbcbkfkbfaaReachWalkG
namespace Go.Proofs.Ytemblbcbkfkbfaa.ReachOutG
open Go.RowKit Go.Proofs.Ytemblbcbkfkbfaa.PReachGrows Go.Proofs.YtemblbcbkfkbfaaW.PrintWords Go.Proofs.YtemblbcbkfkbfaaW.PrintLast Go.Proofs.YtemblbcbkfkbfaaW.PrintMore Go.Proofs.Ytemblbcbkfkbfaa.ReachPlainG Go.Proofs.Ytemblbcbkfkbfaa.Aid
set_option linter.unusedVariables false
set_option linter.unusedSimpArgs false
set_option maxRecDepth 100000
/-- What both come to. -/
def out (n : Nat) (cs : List S31) (q : Int) (r : List Int) : Prop := (¬ inR n q → r = []) ∧ (inR n q → ∃ s : Int → Bool, Least n cs q (fun p => s p = true) ∧ r = outB n s)
theorem out_uniq {n : Nat} {cs : List S31} {q : Int} {r r' : List Int} (h : out n cs q r) (k : out n cs q r') : r = r' := by
  by_cases c : inR n q
  · obtain ⟨s, h1, rfl⟩ := h.2 c
    obtain ⟨t, k1, rfl⟩ := k.2 c
    refine outB_congr fun p _ => ?_
    have := h1.uniq k1 p
    rw [Bool.eq_iff_iff]
    exact this
  · rw [h.1 c, k.1 c]
theorem out_len {n : Nat} {cs : List S31} {q : Int} {r : List Int} (h : out n cs q r) : r.length ≤ n := by
  by_cases c : inR n q
  · obtain ⟨s, h1, rfl⟩ := h.2 c
    exact outB_len n s
  · rw [h.1 c]
    exact Nat.zero_le _
/-- The program's Reach. -/
theorem prog_calls (x0 x1 x2 x3 x4 x5 : Int) (A6 A7 A8 : Option Addr) (n k6 n7 k7 k8 : Nat) (cs : List S31) (q : Int) (w : World) (hn : n ≤ 1000) (hcl : cs.length ≤ 1000) (hr : Kd.C k31 w A8 cs.length cs) :
    Calls Try.prog 6 #[.agg #[.int .i64 x0, .int .i64 x1, .int .i64 x2, .int .i64 x3, .int .i64 x4, .int .i64 x5, .slice A6 n k6, .slice A7 n7 k7, .slice A8 cs.length k8], .int .i64 q] w fun e w' => ∃ v r, e = .returned v ∧ out n cs q r ∧ Kd.R (Kd.int .i64) 3 w' w.heap.size (fun _ => True) v r ∧ Below w.heap.size w w' := by
  by_cases c : inR n q
  · obtain ⟨k, rfl⟩ := Int.eq_ofNat_of_zero_le c.1
    refine (ReachWalkG.reach_yes x0 x1 x2 x3 x4 x5 A6 A7 A8 n k6 n7 k7 k8 cs k w (by have := c.2; omega) hn hcl ⟨hr⟩).mono ?_
    rintro e w' ⟨v, s, rfl, h1, h2, h3⟩
    exact ⟨v, _, rfl, ⟨fun h => absurd c h, fun _ => ⟨s, h1, rfl⟩⟩, h2, h3⟩
  · refine (ReachWalkG.reach_no x0 x1 x2 x3 x4 x5 A6 A7 A8 n k6 n7 k7 cs.length k8 q w ⟨c⟩).mono ?_
    rintro e w' ⟨rfl, h3⟩
    exact ⟨_, [], rfl, ⟨fun _ => rfl, fun h => absurd h c⟩, Kd.R_nil _ _ _ _ _, h3⟩
theorem same_f : ∀ (l : List Int), l.length ≤ 1000000 → Ev (fun k => bulkheadlaw29_sameInts.f k l l) true := by
  intro l hl
  have key : ∀ d i : Nat, l.length - i = d → i ≤ l.length → Ev (fun k => bulkheadlaw29_sameInts.l0 k l l (i : Int)) true := by
    intro d
    induction d with
    | zero =>
      intro i hd hi
      refine Ev.step (f := fun _ => some true) (fun k => ?_) (Ev.now _)
      simp only [bulkheadlaw29_sameInts.l0]
      rw [if_neg (by omega)]
    | succ d ih =>
      intro i hd hi
      have hw : wrap64 ((i : Int) + 1) = ((i + 1 : Nat) : Int) := by
        rw [w64 (by omega) (by omega)]
        omega
      refine Ev.step (f := fun k => bulkheadlaw29_sameInts.l0 k l l ((i + 1 : Nat) : Int)) (fun k => ?_) (ih (i + 1) (by omega) (by omega))
      simp only [bulkheadlaw29_sameInts.l0]
      rw [if_pos (by omega), if_pos (by omega), if_pos (by omega), hw]
      simp
  refine Ev.congr (f := fun k => bulkheadlaw29_sameInts.l0 k l l ((0 : Nat) : Int)) (fun k => ?_) (key (l.length - 0) 0 rfl (by omega))
  unfold bulkheadlaw29_sameInts.f
  rw [if_pos rfl]
  rfl
theorem same_calls {v v' : Value} {r : List Int} {w : World} {b b' : Nat} (hr : r.length ≤ 1000) (h : Kd.R (Kd.int .i64) 3 w b (fun _ => True) v r) (h' : Kd.R (Kd.int .i64) 3 w b' (fun _ => True) v' r) :
    Calls Try.prog 7 #[v, v'] w fun e w' => e = .returned (.bool true) ∧ Drawn0 w w' := by
  obtain ⟨A, c, rfl, h1, h2⟩ := Kd.R_reads h
  obtain ⟨A', c', rfl, h1', h2'⟩ := Kd.R_reads h'
  obtain ⟨k, hk⟩ := (same_f r (by omega)).rounds
  exact bulkheadlaw29_sameInts.calls k A c r A' c' r true w h2 h1 h2' h1' hk
theorem info58b : (Try.prog.info? 58).map (fun i => (i.zero, i.size, i.bytes)) = some (some (.agg #[(.int .i64 0), (.int .i64 0), (.int .i64 0)]), 3, 24) := by kernel_rfl
theorem info31b : (Try.prog.info? 31).map (fun i => (i.zero, i.size, i.bytes)) = some (some (.agg #[(.int .i64 0), (.int .i64 0), (.int .i64 0), (.int .i64 0), (.int .i64 0)]), 5, 40) := by kernel_rfl
end Go.Proofs.Ytemblbcbkfkbfaa.ReachOutG
