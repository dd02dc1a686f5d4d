/- Who can influence whom, in any configuration: the walk of the law. -/
import Derived.Test.YtemblbcbkfkbfaaReachRef
import Derived.Test.YtemblbcbkfkbfaaReachWalk
import Derived.Test.YtemblbcbkfkbfaaReachRec
import Derived.BigQuiet
namespace Go.Proofs.Ytemblbcbkfkbfaa.LawSets
open Go.RowKit Go.Proofs.Ytemblbcbkfkbfaa.PReachSets Go.Proofs.YtemblbcbkfkbfaaW.PrintWords Go.Proofs.YtemblbcbkfkbfaaW.PrintLast Go.Proofs.YtemblbcbkfkbfaaW.PrintMore Go.Proofs.Ytemblbcbkfkbfaa.ReachPlain Go.Proofs.Ytemblbcbkfkbfaa.Aid
set_option linter.unusedVariables false
set_option linter.unusedSimpArgs false
set_option maxRecDepth 100000
/-- What both come to. -/
def out (n : Nat) (cs : List S31) (q : Int) (r : List Int) : Prop := (¬ inR n q → r = []) ∧ (inR n q → ∃ s : Int → Bool, Least n cs q (fun p => s p = true) ∧ r = outB n s)
theorem out_uniq {n : Nat} {cs : List S31} {q : Int} {r r' : List Int} (h : out n cs q r) (k : out n cs q r') : r = r' := by
  by_cases c : inR n q
  · obtain ⟨s, h1, rfl⟩ := h.2 c
    obtain ⟨t, k1, rfl⟩ := k.2 c
    refine outB_congr fun p _ => ?_
    have := h1.uniq k1 p
    rw [Bool.eq_iff_iff]
    exact this
  · rw [h.1 c, k.1 c]
theorem out_len {n : Nat} {cs : List S31} {q : Int} {r : List Int} (h : out n cs q r) : r.length ≤ n := by
  by_cases c : inR n q
  · obtain ⟨s, h1, rfl⟩ := h.2 c
    exact outB_len n s
  · rw [h.1 c]
    exact Nat.zero_le _
/-- The program's Reach. -/
theorem prog_calls (x0 x1 x2 x3 x4 x5 : Int) (A6 A7 A8 : Option Addr) (n k6 n7 k7 k8 : Nat) (cs : List S31) (q : Int) (w : World) (hn : n ≤ 1000) (hcl : cs.length ≤ 1000) (hr : Kd.C k31 w A8 cs.length cs) :
    Calls Try.prog 6 #[.agg #[.int .i64 x0, .int .i64 x1, .int .i64 x2, .int .i64 x3, .int .i64 x4, .int .i64 x5, .slice A6 n k6, .slice A7 n7 k7, .slice A8 cs.length k8], .int .i64 q] w fun e w' => ∃ v r, e = .returned v ∧ out n cs q r ∧ Kd.R (Kd.int .i64) 3 w' w.heap.size (fun _ => True) v r ∧ Below w.heap.size w w' := by
  by_cases c : inR n q
  · obtain ⟨k, rfl⟩ := Int.eq_ofNat_of_zero_le c.1
    refine (ReachWalk.reach_yes x0 x1 x2 x3 x4 x5 A6 A7 A8 n k6 n7 k7 k8 cs k w (by have := c.2; omega) hn hcl ⟨hr⟩).mono ?_
    rintro e w' ⟨v, s, rfl, h1, h2, h3⟩
    exact ⟨v, _, rfl, ⟨fun h => absurd c h, fun _ => ⟨s, h1, rfl⟩⟩, h2, h3⟩
  · refine (ReachWalk.reach_no x0 x1 x2 x3 x4 x5 A6 A7 A8 n k6 n7 k7 cs.length k8 q w ⟨c⟩).mono ?_
    rintro e w' ⟨rfl, h3⟩
    exact ⟨_, [], rfl, ⟨fun _ => rfl, fun h => absurd h c⟩, Kd.R_nil _ _ _ _ _, h3⟩
/-- The document's Reach. -/
theorem ref_calls (x0 x1 x2 x3 x4 x5 : Int) (A6 A7 A8 : Option Addr) (k6 k7 k8 : Nat) (l6 : List S58) (l7 : List S60) (cs : List S31) (q : Int) (w : World) (hn : l6.length ≤ 1000) (hcl : cs.length ≤ 1000)
    (h6 : Kd.C k58 w A6 l6.length l6) (c6 : l6.length ≤ k6) (h7 : Kd.C k60 w A7 l7.length l7) (c7 : l7.length ≤ k7) (h8 : Kd.C k31 w A8 cs.length cs) (c8 : cs.length ≤ k8) :
    Calls Try.prog 8 #[.agg #[.int .i64 x0, .int .i64 x1, .int .i64 x2, .int .i64 x3, .int .i64 x4, .int .i64 x5, .slice A6 l6.length k6, .slice A7 l7.length k7, .slice A8 cs.length k8], .int .i64 q] w fun e w' => ∃ v r, e = .returned v ∧ out l6.length cs q r ∧ Kd.R (Kd.int .i64) 3 w' w.heap.size (fun _ => True) v r ∧ Below w.heap.size w w' := by
  have key : ∃ r, out l6.length cs q r ∧ Ev (fun k => bulkheadref29_Reach.f k x0 x1 x2 x3 x4 x5 l6 l7 cs q) r := by
    have h := ReachRef.ref_comes x0 x1 x2 x3 x4 x5 l6 l7 cs q hcl hn
    by_cases c : inR l6.length q
    · obtain ⟨s, h1, h2⟩ := h.2 c
      exact ⟨_, ⟨fun h => absurd c h, fun _ => ⟨s, h1, rfl⟩⟩, h2⟩
    · exact ⟨[], ⟨fun _ => rfl, fun h => absurd h c⟩, h.1 c⟩
  obtain ⟨r, h1, h2⟩ := key
  obtain ⟨k, hk⟩ := h2.rounds
  refine (bulkheadref29_Reach.calls k x0 x1 x2 x3 x4 x5 A6 k6 l6 A7 k7 l7 A8 k8 cs q r w h6 c6 h7 c7 h8 c8 hk).mono ?_
  rintro e w' ⟨v, rfl, h3, h4⟩
  exact ⟨v, r, rfl, h1, h3, h4⟩
theorem same_f : ∀ (l : List Int), l.length ≤ 1000000 → Ev (fun k => bulkheadlaw29_sameInts.f k l l) true := by
  intro l hl
  have key : ∀ d i : Nat, l.length - i = d → i ≤ l.length → Ev (fun k => bulkheadlaw29_sameInts.l0 k l l (i : Int)) true := by
    intro d
    induction d with
    | zero =>
      intro i hd hi
      refine Ev.step (f := fun _ => some true) (fun k => ?_) (Ev.now _)
      simp only [bulkheadlaw29_sameInts.l0]
      rw [if_neg (by omega)]
    | succ d ih =>
      intro i hd hi
      have hw : wrap64 ((i : Int) + 1) = ((i + 1 : Nat) : Int) := by
        rw [w64 (by omega) (by omega)]
        omega
      refine Ev.step (f := fun k => bulkheadlaw29_sameInts.l0 k l l ((i + 1 : Nat) : Int)) (fun k => ?_) (ih (i + 1) (by omega) (by omega))
      simp only [bulkheadlaw29_sameInts.l0]
      rw [if_pos (by omega), if_pos (by omega), if_pos (by omega), hw]
      simp
  refine Ev.congr (f := fun k => bulkheadlaw29_sameInts.l0 k l l ((0 : Nat) : Int)) (fun k => ?_) (key (l.length - 0) 0 rfl (by omega))
  unfold bulkheadlaw29_sameInts.f
  rw [if_pos rfl]
  rfl
theorem same_calls {v v' : Value} {r : List Int} {w : World} {b b' : Nat} (hr : r.length ≤ 1000) (h : Kd.R (Kd.int .i64) 3 w b (fun _ => True) v r) (h' : Kd.R (Kd.int .i64) 3 w b' (fun _ => True) v' r) :
    Calls Try.prog 7 #[v, v'] w fun e w' => e = .returned (.bool true) ∧ Drawn0 w w' := by
  obtain ⟨A, c, rfl, h1, h2⟩ := Kd.R_reads h
  obtain ⟨A', c', rfl, h1', h2'⟩ := Kd.R_reads h'
  obtain ⟨k, hk⟩ := (same_f r (by omega)).rounds
  exact bulkheadlaw29_sameInts.calls k A c r A' c' r true w h2 h1 h2' h1' hk
theorem info58b : (Try.prog.info? 58).map (fun i => (i.zero, i.size, i.bytes)) = some (some (.agg #[(.int .i64 0), (.int .i64 0), (.int .i64 0)]), 3, 24) := by kernel_rfl
theorem info31b : (Try.prog.info? 31).map (fun i => (i.zero, i.size, i.bytes)) = some (some (.agg #[(.int .i64 0), (.int .i64 0), (.int .i64 0), (.int .i64 0), (.int .i64 0)]), 5, 40) := by kernel_rfl
theorem many (x0 x1 x2 x3 x4 x5 : Int) (A6 A7 A8 : Option Addr) (n6 k6 n7 k7 n8 k8 : Nat) (q : Int) (w : World) (h : Aside0 (60 < n6 ∨ 60 < n8)) :
    Calls Try.prog 3 #[.agg #[.int .i64 x0, .int .i64 x1, .int .i64 x2, .int .i64 x3, .int .i64 x4, .int .i64 x5, .slice A6 n6 k6, .slice A7 n7 k7, .slice A8 n8 k8], .int .i64 q] w fun e w' => e = .returned (.bool true) ∧ Below w.heap.size w w' := by
  by_cases c : 60 < n6
  · go_enter Try.func3, Try.ntmps3
    go_wp2
    go_ret
    exact ⟨rfl, by repeat (first | exact Below.refl _ _ | apply below_alloc)⟩
  · have c2 : 60 < n8 := by
      have := h.out
      omega
    go_enter Try.func3, Try.ntmps3
    go_wp2
    go_ret
    exact ⟨rfl, by repeat (first | exact Below.refl _ _ | apply below_alloc)⟩
set_option maxHeartbeats 1600000 in
theorem few (x0 x1 x2 x3 x4 x5 : Int) (A6 A7 A8 : Option Addr) (k6 k7 k8 : Nat) (l6 : List S58) (l7 : List S60) (cs : List S31) (q : Int) (w : World) (hn : l6.length ≤ 60) (hcl : cs.length ≤ 60)
    (H6 : Aside0 (Kd.C k58 w A6 l6.length l6)) (c6 : Aside0 (l6.length ≤ k6)) (H7 : Aside0 (Kd.C k60 w A7 l7.length l7)) (c7 : Aside0 (l7.length ≤ k7)) (H8 : Aside0 (Kd.C k31 w A8 cs.length cs)) (c8 : Aside0 (cs.length ≤ k8)) :
    Calls Try.prog 3 #[.agg #[.int .i64 x0, .int .i64 x1, .int .i64 x2, .int .i64 x3, .int .i64 x4, .int .i64 x5, .slice A6 l6.length k6, .slice A7 l7.length k7, .slice A8 cs.length k8], .int .i64 q] w fun e w' => e = .returned (.bool true) ∧ Below w.heap.size w w' := by
  have d1 : decide ((60 : Int) < (l6.length : Int)) = false := decide_eq_false (by omega)
  have d2 : decide (60 < l6.length) = false := decide_eq_false (by omega)
  have d3 : decide ((60 : Int) < (cs.length : Int)) = false := decide_eq_false (by omega)
  have d4 : decide (60 < cs.length) = false := decide_eq_false (by omega)
  obtain ⟨CF, hCF⟩ : ∃ CF : Array Value, CF = #[.int .i64 x0, .int .i64 x1, .int .i64 x2, .int .i64 x3, .int .i64 x4, .int .i64 x5, .slice A6 l6.length k6, .slice A7 l7.length k7, .slice A8 cs.length k8] := ⟨_, rfl⟩
  have HCF := Aside0.mk hCF
  clear hCF
  go_enter Try.func3, Try.ntmps3
  go_upto_region 4 with fail
  clear d1 d2 d3 d4
  rw [← HCF.out]
  have BC : Aside0 (((w.alloc (.cells CF 26)).alloc (.cells CF 26)).heap[w.heap.size]? = some (.cells CF 26 (0, 0))) := ⟨blk_alloc (blk_new _ _) _⟩
  have BO : Aside0 (((w.alloc (.cells CF 26)).alloc (.cells CF 26)).heap[w.heap.size + 1]? = some (.cells CF 26 (0, 0))) := ⟨by
    have h := blk_new (w.alloc (.cells CF 26)) (.cells CF 26)
    simpa using h⟩
  have HB : Aside0 (Below w.heap.size w ((w.alloc (.cells CF 26)).alloc (.cells CF 26))) := ⟨by repeat (first | exact Below.refl _ _ | apply below_alloc)⟩
  generalize (w.alloc (.cells CF 26)).alloc (.cells CF 26) = W0 at *
  have f8 : Aside0 (CF[8]? = some (.slice A8 cs.length k8)) := ⟨by rw [HCF.out]; rfl⟩
  have f6 : Aside0 (CF[6]? = some (.slice A6 l6.length k6)) := ⟨by rw [HCF.out]; rfl⟩
  go_upto_region 5 with (first | ((with_reducible refine gate_dst (N := 20) rfl ?_); refine Kd.R_lit k31 (w0 := W0) W0.heap.size 31 (by rfl) (N := 20) rfl (xs := ([] : List S31)) (inner := []) (ok := fun _ => True) (okp := fun _ => True) (by first | (go_simp; done) | (go_simp; rfl)) (Reps.none _ _) (fun _ hk => hk) trivial (Below.refl _ _) (Nat.le_refl _) (by simp) ?_; intro v1 w1 ho hb hg hat; have HB1O := Aside0.mk ho; have HB1 := Aside0.mk hb; clear ho hb hg hat; have cc8 := ((HB1.out.cell (p := ⟨w.heap.size, 8, none⟩) (blk_lt BC.out)).trans (blk_cell BC.out 8)).trans f8.out) | (at_builtin; refine Kd.R_append_rows k31 (w0 := W0) W0.heap.size rfl (.tmp 20) (.tmp 22) 24 31 (.agg #[(.int .i64 0), (.int .i64 0), (.int .i64 0), (.int .i64 0), (.int .i64 0)]) 40 rfl Try.underlying24 info31b rfl (by decide) (by omega) v1 [] cs A8 cs.length k8 (fun _ => True) (fun _ => False) rfl rfl HB1O.out (Kd.C_below H8.out (below_step HB.out HB1.out)) (fun _ _ h => h) (fun _ h => h.elim) (fun _ _ => trivial) HB1.out HB1.out.size (by simp; omega) ?_; intro v2 w2 ho hb hg hat; simp only [List.nil_append] at ho; have HB2O := Aside0.mk ho; have HB2 := Aside0.mk hb; clear ho hb hg hat; obtain ⟨A2, k2, rfl, hk2, hC2⟩ := Kd.R_reads HB2O.out; clear hk2 hC2; have BO2 := Aside0.mk ((HB2.out.block (w.heap.size + 1) (blk_lt BO.out)).trans BO.out); have g8 := (blk_cell BO2.out 8).trans f8.out; have z8 := blk_frozen BO2.out 8))
  have BO3 := Aside0.mk (blk_put BO2.out 8 (.slice A2 cs.length k2) rfl)
  have BC3 := Aside0.mk (blk_far ((HB2.out.block w.heap.size (blk_lt BC.out)).trans BC.out) (p := ⟨w.heap.size + 1, 8, none⟩) (by simp) (.slice A2 cs.length k2))
  have HV2 := Aside0.mk (Kd.R_set HB2O.out BO2.out (by decide) 8 (.slice A2 cs.length k2))
  have HB3 := Aside0.mk (below_set (j := 8) (v := .slice A2 cs.length k2) (below_step HB.out HB2.out) (show w.heap.size ≤ w.heap.size + 1 by omega))
  clear HB1 HB1O HB2O BO BC BO2 g8 z8 cc8
  generalize w2.setCell ⟨w.heap.size + 1, 8, none⟩ (.slice A2 cs.length k2) = W3 at *
  clear HB2 HB
  obtain ⟨OF, hOF⟩ : ∃ OF : Array Value, CF.setIfInBounds 8 (.slice A2 cs.length k2) = OF := ⟨_, rfl⟩
  rw [hOF] at BO3
  have HOF := Aside0.mk hOF
  clear hOF
  have e6 : Aside0 (OF[6]? = some (.slice A6 l6.length k6)) := ⟨by rw [← HOF.out, HCF.out]; rfl⟩
  go_upto_region 6 with (first | ((with_reducible refine gate_dst (N := 25) rfl ?_); refine Kd.R_lit k58 (w0 := W3) W3.heap.size 58 (by rfl) (N := 25) rfl (xs := ([] : List S58)) (inner := []) (ok := fun _ => True) (okp := fun _ => True) (by first | (go_simp; done) | (go_simp; rfl)) (Reps.none _ _) (fun _ hk => hk) trivial (Below.refl _ _) (Nat.le_refl _) (by simp) ?_; intro v4 w4 ho hb hg hat; have HB4O := Aside0.mk ho; have HB4 := Aside0.mk hb; clear ho hb hg hat; have cc6 := ((HB4.out.cell (p := ⟨w.heap.size, 6, none⟩) (blk_lt BC3.out)).trans (blk_cell BC3.out 6)).trans f6.out) | (at_builtin; refine Kd.R_append_rows k58 (w0 := W3) W3.heap.size rfl (.tmp 25) (.tmp 27) 22 58 (.agg #[(.int .i64 0), (.int .i64 0), (.int .i64 0)]) 24 rfl Try.underlying22 info58b rfl (by decide) (by omega) v4 [] l6 A6 l6.length k6 (fun _ => True) (fun _ => False) rfl rfl HB4O.out (Kd.C_below H6.out (below_step HB3.out HB4.out)) (fun _ _ h => h) (fun _ h => h.elim) (fun _ _ => trivial) HB4.out HB4.out.size (by simp; omega) ?_; intro v5 w5 ho hb hg hat; simp only [List.nil_append] at ho; have HB5O := Aside0.mk ho; have HB5 := Aside0.mk hb; clear ho hb hg hat; obtain ⟨A5, k5, rfl, hk5, hC5⟩ := Kd.R_reads HB5O.out; clear hk5 hC5; have BO5 := Aside0.mk ((HB5.out.block (w.heap.size + 1) (blk_lt BO3.out)).trans BO3.out); have g6 := (blk_cell BO5.out 6).trans e6.out; have z6 := blk_frozen BO5.out 6))
  have BO6 := Aside0.mk (blk_put BO5.out 6 (.slice A5 l6.length k5) rfl)
  have BC6 := Aside0.mk (blk_far ((HB5.out.block w.heap.size (blk_lt BC3.out)).trans BC3.out) (p := ⟨w.heap.size + 1, 6, none⟩) (by simp) (.slice A5 l6.length k5))
  have HV2b := Aside0.mk (Kd.R_set (Kd.R_below HV2.out HB5.out) BO5.out (by decide) 6 (.slice A5 l6.length k5))
  have HV5 := Aside0.mk (Kd.R_set HB5O.out BO5.out (by decide) 6 (.slice A5 l6.length k5))
  have HB6 := Aside0.mk (below_set (j := 6) (v := .slice A5 l6.length k5) (below_step HB3.out HB5.out) (show w.heap.size ≤ w.heap.size + 1 by omega))
  clear HB4 HB4O HB5O BO3 BC3 BO5 g6 z6 cc6 HV2
  generalize w5.setCell ⟨w.heap.size + 1, 6, none⟩ (.slice A5 l6.length k5) = W6 at *
  clear HB5 HB3
  have HC2 := Aside0.mk (Kd.R_reads' HV2b.out).2.2
  clear HV2b HV5 e6
  have HOF2 : Aside0 (OF.setIfInBounds 6 (.slice A5 l6.length k5) = #[.int .i64 x0, .int .i64 x1, .int .i64 x2, .int .i64 x3, .int .i64 x4, .int .i64 x5, .slice A5 l6.length k5, .slice A7 l7.length k7, .slice A2 cs.length k2]) := ⟨by rw [← HOF.out, HCF.out]; rfl⟩
  rw [HOF2.out] at BO6
  rw [HCF.out] at BC6
  clear HOF HOF2 f8 f6 HCF
  have HB7 := Aside0.mk (Below.refl W6.heap.size W6)
  have oc0 : W6.cell? ⟨w.heap.size + 1, 0, none⟩ = some (.int .i64 x0) := ((HB7.out.cell (p := ⟨w.heap.size + 1, 0, none⟩) (blk_lt BO6.out)).trans (blk_cell BO6.out 0)).trans rfl
  have oc1 : W6.cell? ⟨w.heap.size + 1, 1, none⟩ = some (.int .i64 x1) := ((HB7.out.cell (p := ⟨w.heap.size + 1, 1, none⟩) (blk_lt BO6.out)).trans (blk_cell BO6.out 1)).trans rfl
  have oc2 : W6.cell? ⟨w.heap.size + 1, 2, none⟩ = some (.int .i64 x2) := ((HB7.out.cell (p := ⟨w.heap.size + 1, 2, none⟩) (blk_lt BO6.out)).trans (blk_cell BO6.out 2)).trans rfl
  have oc3 : W6.cell? ⟨w.heap.size + 1, 3, none⟩ = some (.int .i64 x3) := ((HB7.out.cell (p := ⟨w.heap.size + 1, 3, none⟩) (blk_lt BO6.out)).trans (blk_cell BO6.out 3)).trans rfl
  have oc4 : W6.cell? ⟨w.heap.size + 1, 4, none⟩ = some (.int .i64 x4) := ((HB7.out.cell (p := ⟨w.heap.size + 1, 4, none⟩) (blk_lt BO6.out)).trans (blk_cell BO6.out 4)).trans rfl
  have oc5 : W6.cell? ⟨w.heap.size + 1, 5, none⟩ = some (.int .i64 x5) := ((HB7.out.cell (p := ⟨w.heap.size + 1, 5, none⟩) (blk_lt BO6.out)).trans (blk_cell BO6.out 5)).trans rfl
  have oc6 : W6.cell? ⟨w.heap.size + 1, 6, none⟩ = some (.slice A5 l6.length k5) := ((HB7.out.cell (p := ⟨w.heap.size + 1, 6, none⟩) (blk_lt BO6.out)).trans (blk_cell BO6.out 6)).trans rfl
  have oc7 : W6.cell? ⟨w.heap.size + 1, 7, none⟩ = some (.slice A7 l7.length k7) := ((HB7.out.cell (p := ⟨w.heap.size + 1, 7, none⟩) (blk_lt BO6.out)).trans (blk_cell BO6.out 7)).trans rfl
  have oc8 : W6.cell? ⟨w.heap.size + 1, 8, none⟩ = some (.slice A2 cs.length k2) := ((HB7.out.cell (p := ⟨w.heap.size + 1, 8, none⟩) (blk_lt BO6.out)).trans (blk_cell BO6.out 8)).trans rfl
  have cc0 : W6.cell? ⟨w.heap.size, 0, none⟩ = some (.int .i64 x0) := ((HB7.out.cell (p := ⟨w.heap.size, 0, none⟩) (blk_lt BC6.out)).trans (blk_cell BC6.out 0)).trans rfl
  have cc1 : W6.cell? ⟨w.heap.size, 1, none⟩ = some (.int .i64 x1) := ((HB7.out.cell (p := ⟨w.heap.size, 1, none⟩) (blk_lt BC6.out)).trans (blk_cell BC6.out 1)).trans rfl
  have cc2 : W6.cell? ⟨w.heap.size, 2, none⟩ = some (.int .i64 x2) := ((HB7.out.cell (p := ⟨w.heap.size, 2, none⟩) (blk_lt BC6.out)).trans (blk_cell BC6.out 2)).trans rfl
  have cc3 : W6.cell? ⟨w.heap.size, 3, none⟩ = some (.int .i64 x3) := ((HB7.out.cell (p := ⟨w.heap.size, 3, none⟩) (blk_lt BC6.out)).trans (blk_cell BC6.out 3)).trans rfl
  have cc4 : W6.cell? ⟨w.heap.size, 4, none⟩ = some (.int .i64 x4) := ((HB7.out.cell (p := ⟨w.heap.size, 4, none⟩) (blk_lt BC6.out)).trans (blk_cell BC6.out 4)).trans rfl
  have cc5 : W6.cell? ⟨w.heap.size, 5, none⟩ = some (.int .i64 x5) := ((HB7.out.cell (p := ⟨w.heap.size, 5, none⟩) (blk_lt BC6.out)).trans (blk_cell BC6.out 5)).trans rfl
  have cc6 : W6.cell? ⟨w.heap.size, 6, none⟩ = some (.slice A6 l6.length k6) := ((HB7.out.cell (p := ⟨w.heap.size, 6, none⟩) (blk_lt BC6.out)).trans (blk_cell BC6.out 6)).trans rfl
  have cc7 : W6.cell? ⟨w.heap.size, 7, none⟩ = some (.slice A7 l7.length k7) := ((HB7.out.cell (p := ⟨w.heap.size, 7, none⟩) (blk_lt BC6.out)).trans (blk_cell BC6.out 7)).trans rfl
  have cc8 : W6.cell? ⟨w.heap.size, 8, none⟩ = some (.slice A8 cs.length k8) := ((HB7.out.cell (p := ⟨w.heap.size, 8, none⟩) (blk_lt BC6.out)).trans (blk_cell BC6.out 8)).trans rfl
  go_wp2_with fail
  refine (prog_calls x0 x1 x2 x3 x4 x5 A5 A7 A2 l6.length k5 l7.length k7 k2 cs q _ (by omega) (by omega) HC2.out).mono ?_
  rintro e w7 ⟨v, r, rfl, ho, hR, hB⟩
  have HO := Aside0.mk ho
  have HR := Aside0.mk hR
  have HB8 := Aside0.mk hB
  clear ho hR hB HB7 oc0 oc1 oc2 oc3 oc4 oc5 oc6 oc7 oc8 cc0 cc1 cc2 cc3 cc4 cc5 cc6 cc7 cc8
  have cc0 : w7.cell? ⟨w.heap.size, 0, none⟩ = some (.int .i64 x0) := ((HB8.out.cell (p := ⟨w.heap.size, 0, none⟩) (blk_lt BC6.out)).trans (blk_cell BC6.out 0)).trans rfl
  have cc1 : w7.cell? ⟨w.heap.size, 1, none⟩ = some (.int .i64 x1) := ((HB8.out.cell (p := ⟨w.heap.size, 1, none⟩) (blk_lt BC6.out)).trans (blk_cell BC6.out 1)).trans rfl
  have cc2 : w7.cell? ⟨w.heap.size, 2, none⟩ = some (.int .i64 x2) := ((HB8.out.cell (p := ⟨w.heap.size, 2, none⟩) (blk_lt BC6.out)).trans (blk_cell BC6.out 2)).trans rfl
  have cc3 : w7.cell? ⟨w.heap.size, 3, none⟩ = some (.int .i64 x3) := ((HB8.out.cell (p := ⟨w.heap.size, 3, none⟩) (blk_lt BC6.out)).trans (blk_cell BC6.out 3)).trans rfl
  have cc4 : w7.cell? ⟨w.heap.size, 4, none⟩ = some (.int .i64 x4) := ((HB8.out.cell (p := ⟨w.heap.size, 4, none⟩) (blk_lt BC6.out)).trans (blk_cell BC6.out 4)).trans rfl
  have cc5 : w7.cell? ⟨w.heap.size, 5, none⟩ = some (.int .i64 x5) := ((HB8.out.cell (p := ⟨w.heap.size, 5, none⟩) (blk_lt BC6.out)).trans (blk_cell BC6.out 5)).trans rfl
  have cc6 : w7.cell? ⟨w.heap.size, 6, none⟩ = some (.slice A6 l6.length k6) := ((HB8.out.cell (p := ⟨w.heap.size, 6, none⟩) (blk_lt BC6.out)).trans (blk_cell BC6.out 6)).trans rfl
  have cc7 : w7.cell? ⟨w.heap.size, 7, none⟩ = some (.slice A7 l7.length k7) := ((HB8.out.cell (p := ⟨w.heap.size, 7, none⟩) (blk_lt BC6.out)).trans (blk_cell BC6.out 7)).trans rfl
  have cc8 : w7.cell? ⟨w.heap.size, 8, none⟩ = some (.slice A8 cs.length k8) := ((HB8.out.cell (p := ⟨w.heap.size, 8, none⟩) (blk_lt BC6.out)).trans (blk_cell BC6.out 8)).trans rfl
  go_wp2_with fail
  refine (ref_calls x0 x1 x2 x3 x4 x5 A6 A7 A8 k6 k7 k8 l6 l7 cs q _ (by omega) (by omega) (Kd.C_below H6.out (below_step HB6.out HB8.out)) c6.out (Kd.C_below H7.out (below_step HB6.out HB8.out)) c7.out (Kd.C_below H8.out (below_step HB6.out HB8.out)) c8.out).mono ?_
  rintro e w8 ⟨v', r', rfl, ho, hR, hB⟩
  obtain rfl := out_uniq HO.out ho
  have HR1 := Aside0.mk (Kd.R_below HR.out hB)
  have HR2 := Aside0.mk hR
  have HB9 := Aside0.mk (below_step HB8.out hB)
  have hlr := out_len ho
  have HLR := Aside0.mk (show r.length ≤ 1000 by omega)
  clear ho hR hB HB8 HR hlr cc0 cc1 cc2 cc3 cc4 cc5 cc6 cc7 cc8
  go_wp2_with fail
  refine (same_calls HLR.out HR1.out HR2.out).mono ?_
  rintro e w9 ⟨rfl, ⟨m9, rfl⟩⟩
  have HR3 := Aside0.mk (Kd.R_drewN HR1.out m9)
  have HB10 := Aside0.mk (pw_below_drewN HB9.out m9)
  clear HR1 HR2 HB9
  generalize w8.drewN m9 = w9 at *
  go_wp2_with fail
  go_loopw [7] (fun u wr => ∃ i : Nat, i ≤ cs.length ∧ u = .int .i64 i ∧ Aside0 (Below w9.heap.size w9 wr)) (fun u _ => cs.length - (intOf u).toNat)
  case atStart => exact ⟨0, by omega, rfl, ⟨Below.refl _ _⟩⟩
  case round =>
    obtain ⟨i, hi, rfl, HBr⟩ := hrel
    have HBW := Aside0.mk (below_step HB10.out HBr.out)
    have oc8 : wr.cell? ⟨w.heap.size + 1, 8, none⟩ = some (.slice A2 cs.length k2) := ((HBW.out.cell (p := ⟨w.heap.size + 1, 8, none⟩) (blk_lt BO6.out)).trans (blk_cell BO6.out 8)).trans rfl
    have cc8 : wr.cell? ⟨w.heap.size, 8, none⟩ = some (.slice A8 cs.length k8) := ((HBW.out.cell (p := ⟨w.heap.size, 8, none⟩) (blk_lt BC6.out)).trans (blk_cell BC6.out 8)).trans rfl
    by_cases hlt : i < cs.length
    · obtain ⟨ad, hA, hx0, hx1, hx2, hx3, hx4⟩ := at_T31 (Kd.C_below HC2.out HBW.out) (i : Int) (by omega) (by omega)
      obtain ⟨ad', hA', hy0, hy1, hy2, hy3, hy4⟩ := at_T31 (Kd.C_below H8.out (below_step HB6.out HBW.out)) (i : Int) (by omega) (by omega)
      rw [Int.toNat_natCast] at hx0 hx1 hx2 hx3 hx4 hy0 hy1 hy2 hy3 hy4
      subst hA
      subst hA'
      have i0 : (0 : Int) ≤ (i : Int) := by omega
      have i1 : (i : Int) < (cs.length : Int) := by omega
      go_wp2_with fail
      go_quiet (fail)
      go_wp2_with fail
      go_roundw
      case rel => exact ⟨i + 1, by omega, by go_num, ⟨by repeat (first | exact HBr.out | apply pw_below_drewN | apply below_drew1)⟩⟩
      case measure =>
        simp [intOf]
        omega
    · have HR4 := Aside0.mk (Kd.R_below HR3.out HBr.out)
      obtain ⟨A, c, rfl, hc, _⟩ := Kd.R_reads HR4.out
      have HCc := Aside0.mk hc
      clear hc HR3 HBr HB10
      go_wp2_with fail
      clear oc8 cc8 hi hlt
      go_loopw [8] (fun u wx => ∃ (i : Nat) (ys : List Int), i ≤ r.length ∧ u = .int .i64 i ∧ Aside0 (Kd.R (Kd.int .i64) 3 wx W6.heap.size (fun _ => True) (.slice A r.length c) ys) ∧ Aside0 (Below W6.heap.size W6 wx)) (fun u _ => r.length - (intOf u).toNat)
      case atStart => exact ⟨0, r, by omega, rfl, HR4, HBW⟩
      case round =>
        rename_i wx
        clear HR4 HBW
        obtain ⟨i, ys, hi, rfl, HR4, HBX⟩ := hrel
        by_cases hlt : i < r.length
        · have hyl := (Kd.R_reads' HR4.out).1
          obtain ⟨g, cap, he, hg0, hg1, hg2⟩ := Kd.R_form HR4.out (by omega)
          injection he with he _ _
          subst he
          obtain ⟨hcl1, hfr1⟩ := Kd.R_celln (0 : Int) HR4.out (i : Int) (by omega) (by omega)
          rw [Int.toNat_natCast] at hcl1 hfr1
          have HP := Aside0.mk (Kd.R_putn HR4.out (i : Int) (-9 : Int))
          have HB2 := Aside0.mk (below_set (j := i) (v := .int .i64 (-9)) HBX.out hg0)
          have hlr := HLR.out
          clear hg0 hg2 hyl HR4 HBX
          go_wp2_with fail
          go_roundw
          case rel => exact ⟨i + 1, _, by omega, by go_num, HP, HB2⟩
          case measure =>
            simp [intOf]
            omega
        · go_wp2_with fail
          clear HR4 hi hlt
          have Hs0 := Aside0.mk (below_drew1 HBX.out)
          refine start_ (n := 8) (S := fun w' => Below W6.heap.size W6 w') (ds := []) #[false, false, false, false, false, false, false, false] (by kernel_rfl) rfl rfl Hs0.out (fun hs => ?_)
          have Hs := Aside0.mk hs
          clear hs Hs0
          refine take_ (i := 0) (N := some 66) (v := .agg #[.int .i64 x0, .int .i64 x1, .int .i64 x2, .int .i64 x3, .int .i64 x4, .int .i64 x5, .slice A5 l6.length k5, .slice A7 l7.length k7, .slice A2 cs.length k2]) #[true, false, false, false, false, false, false, false] rfl rfl (by kernel_rfl) (fun _ _ _ h => h) (Or.inl ⟨by rfl, ?_⟩) ?_ (a' := ?_) ?_ ?_
          · intro w' hS
            have oc0 : w'.cell? ⟨w.heap.size + 1, 0, none⟩ = some (.int .i64 x0) := ((hS.cell (p := ⟨w.heap.size + 1, 0, none⟩) (blk_lt BO6.out)).trans (blk_cell BO6.out 0)).trans rfl
            have oc1 : w'.cell? ⟨w.heap.size + 1, 1, none⟩ = some (.int .i64 x1) := ((hS.cell (p := ⟨w.heap.size + 1, 1, none⟩) (blk_lt BO6.out)).trans (blk_cell BO6.out 1)).trans rfl
            have oc2 : w'.cell? ⟨w.heap.size + 1, 2, none⟩ = some (.int .i64 x2) := ((hS.cell (p := ⟨w.heap.size + 1, 2, none⟩) (blk_lt BO6.out)).trans (blk_cell BO6.out 2)).trans rfl
            have oc3 : w'.cell? ⟨w.heap.size + 1, 3, none⟩ = some (.int .i64 x3) := ((hS.cell (p := ⟨w.heap.size + 1, 3, none⟩) (blk_lt BO6.out)).trans (blk_cell BO6.out 3)).trans rfl
            have oc4 : w'.cell? ⟨w.heap.size + 1, 4, none⟩ = some (.int .i64 x4) := ((hS.cell (p := ⟨w.heap.size + 1, 4, none⟩) (blk_lt BO6.out)).trans (blk_cell BO6.out 4)).trans rfl
            have oc5 : w'.cell? ⟨w.heap.size + 1, 5, none⟩ = some (.int .i64 x5) := ((hS.cell (p := ⟨w.heap.size + 1, 5, none⟩) (blk_lt BO6.out)).trans (blk_cell BO6.out 5)).trans rfl
            have oc6 : w'.cell? ⟨w.heap.size + 1, 6, none⟩ = some (.slice A5 l6.length k5) := ((hS.cell (p := ⟨w.heap.size + 1, 6, none⟩) (blk_lt BO6.out)).trans (blk_cell BO6.out 6)).trans rfl
            have oc7 : w'.cell? ⟨w.heap.size + 1, 7, none⟩ = some (.slice A7 l7.length k7) := ((hS.cell (p := ⟨w.heap.size + 1, 7, none⟩) (blk_lt BO6.out)).trans (blk_cell BO6.out 7)).trans rfl
            have oc8 : w'.cell? ⟨w.heap.size + 1, 8, none⟩ = some (.slice A2 cs.length k2) := ((hS.cell (p := ⟨w.heap.size + 1, 8, none⟩) (blk_lt BO6.out)).trans (blk_cell BO6.out 8)).trans rfl
            go_simp
          · exact Hs.out
          rotate_left
          · simp only [Act.put, List.setIfInBounds_toArray, List.set_cons_zero, List.set_cons_succ]
            rfl
          refine pure_ (i := 1) (N := some 67) (v := ?_) (a' := ?_) #[true, true, false, false, false, false, false, false] rfl rfl (by kernel_rfl) (fun _ _ _ h => h) (Or.inl ⟨by rfl, ?_⟩) ?_ ?_
          rotate_left
          · intro w'
            go_simp
            with_reducible rfl
          rotate_left
          · simp only [Act.put, List.setIfInBounds_toArray, List.set_cons_zero, List.set_cons_succ]
            rfl
          refine take_ (i := 3) (N := some 69) (v := .agg #[.int .i64 x0, .int .i64 x1, .int .i64 x2, .int .i64 x3, .int .i64 x4, .int .i64 x5, .slice A6 l6.length k6, .slice A7 l7.length k7, .slice A8 cs.length k8]) #[true, true, false, true, false, false, false, false] rfl rfl (by kernel_rfl) (fun _ _ _ h => h) (Or.inl ⟨by rfl, ?_⟩) ?_ (a' := ?_) ?_ ?_
          · intro w' hS
            have cc0 : w'.cell? ⟨w.heap.size, 0, none⟩ = some (.int .i64 x0) := ((hS.cell (p := ⟨w.heap.size, 0, none⟩) (blk_lt BC6.out)).trans (blk_cell BC6.out 0)).trans rfl
            have cc1 : w'.cell? ⟨w.heap.size, 1, none⟩ = some (.int .i64 x1) := ((hS.cell (p := ⟨w.heap.size, 1, none⟩) (blk_lt BC6.out)).trans (blk_cell BC6.out 1)).trans rfl
            have cc2 : w'.cell? ⟨w.heap.size, 2, none⟩ = some (.int .i64 x2) := ((hS.cell (p := ⟨w.heap.size, 2, none⟩) (blk_lt BC6.out)).trans (blk_cell BC6.out 2)).trans rfl
            have cc3 : w'.cell? ⟨w.heap.size, 3, none⟩ = some (.int .i64 x3) := ((hS.cell (p := ⟨w.heap.size, 3, none⟩) (blk_lt BC6.out)).trans (blk_cell BC6.out 3)).trans rfl
            have cc4 : w'.cell? ⟨w.heap.size, 4, none⟩ = some (.int .i64 x4) := ((hS.cell (p := ⟨w.heap.size, 4, none⟩) (blk_lt BC6.out)).trans (blk_cell BC6.out 4)).trans rfl
            have cc5 : w'.cell? ⟨w.heap.size, 5, none⟩ = some (.int .i64 x5) := ((hS.cell (p := ⟨w.heap.size, 5, none⟩) (blk_lt BC6.out)).trans (blk_cell BC6.out 5)).trans rfl
            have cc6 : w'.cell? ⟨w.heap.size, 6, none⟩ = some (.slice A6 l6.length k6) := ((hS.cell (p := ⟨w.heap.size, 6, none⟩) (blk_lt BC6.out)).trans (blk_cell BC6.out 6)).trans rfl
            have cc7 : w'.cell? ⟨w.heap.size, 7, none⟩ = some (.slice A7 l7.length k7) := ((hS.cell (p := ⟨w.heap.size, 7, none⟩) (blk_lt BC6.out)).trans (blk_cell BC6.out 7)).trans rfl
            have cc8 : w'.cell? ⟨w.heap.size, 8, none⟩ = some (.slice A8 cs.length k8) := ((hS.cell (p := ⟨w.heap.size, 8, none⟩) (blk_lt BC6.out)).trans (blk_cell BC6.out 8)).trans rfl
            go_simp
          · exact Hs.out
          rotate_left
          · simp only [Act.put, List.setIfInBounds_toArray, List.set_cons_zero, List.set_cons_succ]
            rfl
          refine pure_ (i := 4) (N := some 70) (v := ?_) (a' := ?_) #[true, true, false, true, true, false, false, false] rfl rfl (by kernel_rfl) (fun _ _ _ h => h) (Or.inl ⟨by rfl, ?_⟩) ?_ ?_
          rotate_left
          · intro w'
            go_simp
            with_reducible rfl
          rotate_left
          · simp only [Act.put, List.setIfInBounds_toArray, List.set_cons_zero, List.set_cons_succ]
            rfl
          refine one_ (i := 2) (N := some 68) #[true, true, true, true, true, false, false, false] rfl rfl (by kernel_rfl) (by decide) (fun K hK => ?_)
          refine call_ 6 _ (by rfl) rfl (by go_simp; rfl) ?_
          refine (prog_calls x0 x1 x2 x3 x4 x5 A5 A7 A2 l6.length k5 l7.length k7 k2 cs q _ (by omega) (by omega) (Kd.C_below HC2.out Hs.out)).mono ?_
          rintro e wn ⟨u1, r1, rfl, ho, hR, hB⟩
          refine ⟨_, rfl, ?_⟩
          refine hK.out _ _ (below_step Hs.out hB) (fun hs => ?_)
          have HO1 := Aside0.mk ho
          have HR1 := Aside0.mk hR
          clear hK K hB ho hR Hs
          have Hs := Aside0.mk hs
          clear hs
          refine norm_ (a' := ?_) ?_ ?_
          rotate_left
          · show Act.put _ (some 68) _ = _
            simp only [Act.put, List.setIfInBounds_toArray, List.set_cons_zero, List.set_cons_succ]
            rfl
          refine one_ (i := 5) (N := some 71) #[true, true, true, true, true, true, false, false] rfl rfl (by kernel_rfl) (by decide) (fun K hK => ?_)
          refine call_ 8 _ (by rfl) rfl (by go_simp; rfl) ?_
          refine (ref_calls x0 x1 x2 x3 x4 x5 A6 A7 A8 k6 k7 k8 l6 l7 cs q _ (by omega) (by omega) (Kd.C_below H6.out (below_step HB6.out Hs.out)) c6.out (Kd.C_below H7.out (below_step HB6.out Hs.out)) c7.out (Kd.C_below H8.out (below_step HB6.out Hs.out)) c8.out).mono ?_
          rintro e wm ⟨u2, r2, rfl, ho, hR, hB⟩
          obtain rfl := out_uniq HO1.out ho
          have HLR1 := Aside0.mk (show r1.length ≤ 1000 by have := out_len ho; omega)
          refine ⟨_, rfl, ?_⟩
          refine hK.out _ _ (below_step Hs.out hB) (fun hs => ?_)
          have HR2 := Aside0.mk hR
          have HR1 := Aside0.mk (Kd.R_below HR1.out hB)
          clear hK K hB ho hR Hs
          have Hs := Aside0.mk hs
          clear hs
          refine norm_ (a' := ?_) ?_ ?_
          rotate_left
          · show Act.put _ (some 71) _ = _
            simp only [Act.put, List.setIfInBounds_toArray, List.set_cons_zero, List.set_cons_succ]
            rfl
          refine one_ (i := 6) (N := some 72) #[true, true, true, true, true, true, true, false] rfl rfl (by kernel_rfl) (by decide) (fun K hK => ?_)
          refine call_ 7 _ (by rfl) rfl (by go_simp; rfl) ?_
          refine (same_calls HLR1.out HR1.out HR2.out).mono ?_
          rintro e wx ⟨rfl, ⟨m9, rfl⟩⟩
          refine ⟨_, rfl, ?_⟩
          refine hK.out _ _ (pw_below_drewN Hs.out m9) (fun hs => ?_)
          clear hK K Hs
          have Hs := Aside0.mk hs
          clear hs
          refine norm_ (a' := ?_) ?_ ?_
          rotate_left
          · show Act.put _ (some 72) _ = _
            simp only [Act.put, List.setIfInBounds_toArray, List.set_cons_zero, List.set_cons_succ]
            rfl
          refine pure_ (i := 7) (N := some 4) (v := ?_) (a' := ?_) #[true, true, true, true, true, true, true, true] rfl rfl (by kernel_rfl) (fun _ _ _ h => h) (Or.inl ⟨by rfl, ?_⟩) ?_ ?_
          rotate_left
          · intro w'
            go_simp
            with_reducible rfl
          rotate_left
          · simp only [Act.put, List.setIfInBounds_toArray, List.set_cons_zero, List.set_cons_succ]
            rfl
          refine done_ (by kernel_rfl) ?_
          go_wp2
          go_ret
          exact ⟨rfl, below_step HB6.out Hs.out⟩
theorem walk (x0 x1 x2 x3 x4 x5 : Int) (A6 : Option Addr) (n6 k6 : Nat) (A7 : Option Addr) (n7 k7 : Nat) (A8 : Option Addr) (n8 k8 : Nat) (X6 X7 X8 : Nat → Nat → Int) (q : Int) (w : World) (h6 : AidRows.Recs w A6 n6 [.i64, .i64, .i64] X6) (y6 : n6 * 24 ≤ 140737488351232) (e6 : n6 ≤ k6) (h7 : AidRows.Recs w A7 n7 [.i64, .i64, .i64] X7) (y7 : n7 * 24 ≤ 140737488351232) (e7 : n7 ≤ k7) (h8 : AidRows.Recs w A8 n8 [.i64, .i64, .i64, .i64, .i64] X8) (y8 : n8 * 40 ≤ 140737488351232) (e8 : n8 ≤ k8)
    (_ : (Lit.int .i64 q).wf = true) :
    Calls Try.prog 3 #[.agg #[.int .i64 x0, .int .i64 x1, .int .i64 x2, .int .i64 x3, .int .i64 x4, .int .i64 x5, .slice A6 n6 k6, .slice A7 n7 k7, .slice A8 n8 k8], .int .i64 q] w fun e w' => e = .returned (.bool true) ∧ Below w.heap.size w w' := by
  by_cases c : 60 < n6 ∨ 60 < n8
  · exact many x0 x1 x2 x3 x4 x5 A6 A7 A8 n6 k6 n7 k7 n8 k8 q w ⟨c⟩
  · have := few x0 x1 x2 x3 x4 x5 A6 A7 A8 k6 k7 k8 (ReachRec.parts n6 X6) (ReachRec.wins n7 X7) (ReachRec.chans n8 X8) q w (by rw [ReachRec.parts_length]; omega) (by rw [ReachRec.chans_length]; omega) ⟨ReachRec.parts_row h6 (by omega)⟩ ⟨by rw [ReachRec.parts_length]; exact e6⟩ ⟨ReachRec.wins_row h7 (by omega)⟩ ⟨by rw [ReachRec.wins_length]; exact e7⟩ ⟨ReachRec.chans_row h8 (by omega)⟩ ⟨by rw [ReachRec.chans_length]; exact e8⟩
    rwa [ReachRec.parts_length, ReachRec.wins_length, ReachRec.chans_length] at this
end Go.Proofs.Ytemblbcbkfkbfaa.LawSets
