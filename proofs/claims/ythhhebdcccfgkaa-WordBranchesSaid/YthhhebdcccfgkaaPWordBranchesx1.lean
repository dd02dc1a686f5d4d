-- PRINTED BY print.sh 35421559b90ae4d0a3588c463048766b98c2df88dd9212a6774a882060cdf62d: not written by this session
import Derived.Test.YthhhebdcccfgkaaPWordBranchesx0
namespace Go.Proofs.Ythhhebdcccfgkaa.PWordBranches
open Go.RowKit Go.Proofs.YthhhebdcccfgkaaW.PrintWords Go.Proofs.YthhhebdcccfgkaaW.PrintLast Go.Proofs.YthhhebdcccfgkaaW.PrintMore
attribute [local go_sem] max2_int min2_int max_two min_two max_three min_three max_four min_four   -- for this text's walks alone
set_option linter.unusedVariables false
set_option linter.unusedSimpArgs false

/-! ### word_Branch: function 17 -/
def word_Branch.f (a0 : Int) (a1 : Int) (a2 : Int) : Option (Bool × Int) := if a0 = 38 then (some ((a1 == a2), 0)) else (if a0 = 39 then (some ((a1 != a2), 0)) else (if a0 = 40 then (some (decide ((wrap32 (a1)) < (wrap32 (a2))), 0)) else (if a0 = 41 then (some (decide ((wrap32 (a1)) ≥ (wrap32 (a2))), 0)) else (if a0 = 42 then (some (decide (a1 < a2), 0)) else (if a0 = 43 then (some (decide (a1 ≥ a2), 0)) else (some (false, 5)))))))
set_option maxHeartbeats 8000000 in
set_option maxRecDepth 100000 in
theorem word_Branch.calls (a0 : Int) (a1 : Int) (a2 : Int) (r1 : Bool) (r2 : Int) (w : World) (h : word_Branch.f a0 a1 a2 = some (r1, r2)) :
    Calls Try.prog 17 #[.int .i64 a0, .int .u32 a1, .int .u32 a2] w fun e w' => e = .returned (.tuple #[.bool r1, .int .i64 r2]) ∧ Drawn0 w w' := by
  have H : (if a0 = 38 then (some ((a1 == a2), 0)) else (if a0 = 39 then (some ((a1 != a2), 0)) else (if a0 = 40 then (some (decide ((wrap32 (a1)) < (wrap32 (a2))), 0)) else (if a0 = 41 then (some (decide ((wrap32 (a1)) ≥ (wrap32 (a2))), 0)) else (if a0 = 42 then (some (decide (a1 < a2), 0)) else (if a0 = 43 then (some (decide (a1 ≥ a2), 0)) else (some (false, 5)))))))) = some (r1, r2) := h
  clear h
  by_cases c4 : a0 = 38
  · rw [if_pos c4] at H
    have c4b0 : (a0 == 38) = true := beq_iff_eq.mpr c4
    have c4b1 : (a0 != 38) = false := bne_eq_false_iff_eq.mpr c4
    clear c4
    simp only [Option.some.injEq, Prod.mk.injEq] at H
    obtain ⟨rfl, rfl⟩ := H
    go_enter Try.func17, Try.ntmps17
    go_wp2
    go_ret2
    exact ⟨by first | rfl | (simp; done) | (simp [*]; done), by repeat (first | exact Drawn0.refl _ | apply Drawn0.step)⟩
  · rw [if_neg c4] at H
    have c4b0 : (a0 == 38) = false := beq_eq_false_iff_ne.mpr c4
    have c4b1 : (a0 != 38) = true := bne_iff_ne.mpr c4
    by_cases c5 : a0 = 39
    · rw [if_pos c5] at H
      have c5b0 : (a0 == 39) = true := beq_iff_eq.mpr c5
      have c5b1 : (a0 != 39) = false := bne_eq_false_iff_eq.mpr c5
      clear c5
      simp only [Option.some.injEq, Prod.mk.injEq] at H
      obtain ⟨rfl, rfl⟩ := H
      go_enter Try.func17, Try.ntmps17
      go_wp2
      go_ret2
      exact ⟨by first | rfl | (simp; done) | (simp [*]; done), by repeat (first | exact Drawn0.refl _ | apply Drawn0.step)⟩
    · rw [if_neg c5] at H
      have c5b0 : (a0 == 39) = false := beq_eq_false_iff_ne.mpr c5
      have c5b1 : (a0 != 39) = true := bne_iff_ne.mpr c5
      by_cases c6 : a0 = 40
      · rw [if_pos c6] at H
        have c6b0 : (a0 == 40) = true := beq_iff_eq.mpr c6
        have c6b1 : (a0 != 40) = false := bne_eq_false_iff_eq.mpr c6
        clear c6
        simp only [Option.some.injEq, Prod.mk.injEq] at H
        obtain ⟨rfl, rfl⟩ := H
        go_enter Try.func17, Try.ntmps17
        go_wp2
        go_ret2
        exact ⟨by first | rfl | (simp; done) | (simp [*]; done), by repeat (first | exact Drawn0.refl _ | apply Drawn0.step)⟩
      · rw [if_neg c6] at H
        have c6b0 : (a0 == 40) = false := beq_eq_false_iff_ne.mpr c6
        have c6b1 : (a0 != 40) = true := bne_iff_ne.mpr c6
        by_cases c7 : a0 = 41
        · rw [if_pos c7] at H
          have c7b0 : (a0 == 41) = true := beq_iff_eq.mpr c7
          have c7b1 : (a0 != 41) = false := bne_eq_false_iff_eq.mpr c7
          clear c7
          simp only [Option.some.injEq, Prod.mk.injEq] at H
          obtain ⟨rfl, rfl⟩ := H
          go_enter Try.func17, Try.ntmps17
          go_wp2
          go_ret2
          exact ⟨by first | rfl | (simp; done) | (simp [*]; done), by repeat (first | exact Drawn0.refl _ | apply Drawn0.step)⟩
        · rw [if_neg c7] at H
          have c7b0 : (a0 == 41) = false := beq_eq_false_iff_ne.mpr c7
          have c7b1 : (a0 != 41) = true := bne_iff_ne.mpr c7
          by_cases c8 : a0 = 42
          · rw [if_pos c8] at H
            have c8b0 : (a0 == 42) = true := beq_iff_eq.mpr c8
            have c8b1 : (a0 != 42) = false := bne_eq_false_iff_eq.mpr c8
            clear c8
            simp only [Option.some.injEq, Prod.mk.injEq] at H
            obtain ⟨rfl, rfl⟩ := H
            go_enter Try.func17, Try.ntmps17
            go_wp2
            go_ret2
            exact ⟨by first | rfl | (simp; done) | (simp [*]; done), by repeat (first | exact Drawn0.refl _ | apply Drawn0.step)⟩
          · rw [if_neg c8] at H
            have c8b0 : (a0 == 42) = false := beq_eq_false_iff_ne.mpr c8
            have c8b1 : (a0 != 42) = true := bne_iff_ne.mpr c8
            by_cases c9 : a0 = 43
            · rw [if_pos c9] at H
              have c9b0 : (a0 == 43) = true := beq_iff_eq.mpr c9
              have c9b1 : (a0 != 43) = false := bne_eq_false_iff_eq.mpr c9
              clear c9
              simp only [Option.some.injEq, Prod.mk.injEq] at H
              obtain ⟨rfl, rfl⟩ := H
              go_enter Try.func17, Try.ntmps17
              go_wp2
              go_ret2
              exact ⟨by first | rfl | (simp; done) | (simp [*]; done), by repeat (first | exact Drawn0.refl _ | apply Drawn0.step)⟩
            · rw [if_neg c9] at H
              have c9b0 : (a0 == 43) = false := beq_eq_false_iff_ne.mpr c9
              have c9b1 : (a0 != 43) = true := bne_iff_ne.mpr c9
              simp only [Option.some.injEq, Prod.mk.injEq] at H
              obtain ⟨rfl, rfl⟩ := H
              go_enter Try.func17, Try.ntmps17
              go_wp2
              go_ret2
              exact ⟨by first | rfl | (simp; done) | (simp [*]; done), by repeat (first | exact Drawn0.refl _ | apply Drawn0.step)⟩

/-! ### bulkheadref01_Signed: function 23 -/
def bulkheadref01_Signed.f (a0 : Int) : Option (Int) := if (wrap64 (a0)) ≥ 2147483648 then (some (wrap64 ((wrap64 (a0)) - 4294967296))) else (some (wrap64 (a0)))
set_option maxHeartbeats 8000000 in
set_option maxRecDepth 100000 in
theorem bulkheadref01_Signed.calls (a0 : Int) (r : Int) (w : World) (h : bulkheadref01_Signed.f a0 = some r) :
    Calls Try.prog 23 #[.int .u32 a0] w fun e w' => e = .returned (.int .i64 r) ∧ Drawn0 w w' := by
  have H : (if (wrap64 (a0)) ≥ 2147483648 then (some (wrap64 ((wrap64 (a0)) - 4294967296))) else (some (wrap64 (a0)))) = some r := h
  clear h
  by_cases c2 : (wrap64 (a0)) ≥ 2147483648
  · rw [if_pos c2] at H
    have c2b0 : decide (2147483648 ≤ (wrap64 (a0))) = true := decide_eq_true c2
    clear c2
    obtain rfl := Option.some.inj H
    go_enter Try.func23, Try.ntmps23
    go_wp2
    go_ret
    exact ⟨by first | rfl | (simp; done) | (simp [*]; done), by repeat (first | exact Drawn0.refl _ | apply Drawn0.step)⟩
  · rw [if_neg c2] at H
    have c2b0 : decide (2147483648 ≤ (wrap64 (a0))) = false := decide_eq_false c2
    clear c2
    obtain rfl := Option.some.inj H
    go_enter Try.func23, Try.ntmps23
    go_wp2
    go_ret
    exact ⟨by first | rfl | (simp; done) | (simp [*]; done), by repeat (first | exact Drawn0.refl _ | apply Drawn0.step)⟩

/-! ### bulkheadref01_Branch: function 18 -/
def bulkheadref01_Branch.f (a0 : Int) (a1 : Int) (a2 : Int) : Option (Bool × Int) := if a0 = 38 then (some ((a1 == a2), 0)) else (if a0 = 39 then (some ((a1 != a2), 0)) else (if a0 = 40 then ((bulkheadref01_Signed.f a1).bind fun t101 => ((bulkheadref01_Signed.f a2).bind fun t102 => (some (decide (t101 < t102), 0)))) else (if a0 = 41 then ((bulkheadref01_Signed.f a1).bind fun t103 => ((bulkheadref01_Signed.f a2).bind fun t104 => (some (decide (t103 ≥ t104), 0)))) else (if a0 = 42 then (some (decide (a1 < a2), 0)) else (if a0 = 43 then (some (decide (a1 ≥ a2), 0)) else (some (false, 5)))))))
set_option maxHeartbeats 8000000 in
set_option maxRecDepth 100000 in
theorem bulkheadref01_Branch.calls (a0 : Int) (a1 : Int) (a2 : Int) (r1 : Bool) (r2 : Int) (w : World) (h : bulkheadref01_Branch.f a0 a1 a2 = some (r1, r2)) :
    Calls Try.prog 18 #[.int .i64 a0, .int .u32 a1, .int .u32 a2] w fun e w' => e = .returned (.tuple #[.bool r1, .int .i64 r2]) ∧ Drawn0 w w' := by
  have H : (if a0 = 38 then (some ((a1 == a2), 0)) else (if a0 = 39 then (some ((a1 != a2), 0)) else (if a0 = 40 then ((bulkheadref01_Signed.f a1).bind fun t101 => ((bulkheadref01_Signed.f a2).bind fun t102 => (some (decide (t101 < t102), 0)))) else (if a0 = 41 then ((bulkheadref01_Signed.f a1).bind fun t103 => ((bulkheadref01_Signed.f a2).bind fun t104 => (some (decide (t103 ≥ t104), 0)))) else (if a0 = 42 then (some (decide (a1 < a2), 0)) else (if a0 = 43 then (some (decide (a1 ≥ a2), 0)) else (some (false, 5)))))))) = some (r1, r2) := h
  clear h
  by_cases c4 : a0 = 38
  · rw [if_pos c4] at H
    have c4b0 : (a0 == 38) = true := beq_iff_eq.mpr c4
    have c4b1 : (a0 != 38) = false := bne_eq_false_iff_eq.mpr c4
    clear c4
    simp only [Option.some.injEq, Prod.mk.injEq] at H
    obtain ⟨rfl, rfl⟩ := H
    go_enter Try.func18, Try.ntmps18
    go_wp2
    go_ret2
    exact ⟨by first | rfl | (simp; done) | (simp [*]; done), by repeat (first | exact Drawn0.refl _ | apply Drawn0.step)⟩
  · rw [if_neg c4] at H
    have c4b0 : (a0 == 38) = false := beq_eq_false_iff_ne.mpr c4
    have c4b1 : (a0 != 38) = true := bne_iff_ne.mpr c4
    by_cases c5 : a0 = 39
    · rw [if_pos c5] at H
      have c5b0 : (a0 == 39) = true := beq_iff_eq.mpr c5
      have c5b1 : (a0 != 39) = false := bne_eq_false_iff_eq.mpr c5
      clear c5
      simp only [Option.some.injEq, Prod.mk.injEq] at H
      obtain ⟨rfl, rfl⟩ := H
      go_enter Try.func18, Try.ntmps18
      go_wp2
      go_ret2
      exact ⟨by first | rfl | (simp; done) | (simp [*]; done), by repeat (first | exact Drawn0.refl _ | apply Drawn0.step)⟩
    · rw [if_neg c5] at H
      have c5b0 : (a0 == 39) = false := beq_eq_false_iff_ne.mpr c5
      have c5b1 : (a0 != 39) = true := bne_iff_ne.mpr c5
      by_cases c6 : a0 = 40
      · rw [if_pos c6] at H
        have c6b0 : (a0 == 40) = true := beq_iff_eq.mpr c6
        have c6b1 : (a0 != 40) = false := bne_eq_false_iff_eq.mpr c6
        clear c6
        replace H := Option.bind_eq_some_iff.mp H
        obtain ⟨t101, A70, H⟩ := H
        replace H : ((bulkheadref01_Signed.f a2).bind fun t102 => (some (decide (t101 < t102), 0))) = some (r1, r2) := H
        have A7 := Aside0.mk A70
        clear A70
        replace H := Option.bind_eq_some_iff.mp H
        obtain ⟨t102, A80, H⟩ := H
        replace H : (some (decide (t101 < t102), 0)) = some (r1, r2) := H
        have A8 := Aside0.mk A80
        clear A80
        simp only [Option.some.injEq, Prod.mk.injEq] at H
        obtain ⟨rfl, rfl⟩ := H
        go_enter Try.func18, Try.ntmps18
        go_wp2_with (first | ((with_reducible refine gate_callee (f := 23) rfl ?_); refine goesL_ (some 22) rfl rfl Try.func23 (by kernel_rfl) rfl #[.int .u32 a1] rfl (by (try simp only [List.map_toArray, List.map_cons, List.map_nil]); first | done | rfl | (simp only [List.length_drop, List.length_take]; rfl)) ?_; (with_reducible refine (bulkheadref01_Signed.calls a1 t101 _ A7.out).mono ?_); rintro e w' ⟨rfl, ⟨nd, rfl⟩⟩; refine ⟨_, rfl, ?_⟩) | ((with_reducible refine gate_callee (f := 23) rfl ?_); refine goesL_ (some 24) rfl rfl Try.func23 (by kernel_rfl) rfl #[.int .u32 a2] rfl (by (try simp only [List.map_toArray, List.map_cons, List.map_nil]); first | done | rfl | (simp only [List.length_drop, List.length_take]; rfl)) ?_; (with_reducible refine (bulkheadref01_Signed.calls a2 t102 _ A8.out).mono ?_); rintro e w' ⟨rfl, ⟨nd, rfl⟩⟩; refine ⟨_, rfl, ?_⟩))
        go_ret2
        exact ⟨by first | rfl | (simp; done) | (simp [*]; done), by repeat (first | exact Drawn0.refl _ | apply Drawn0.step)⟩
      · rw [if_neg c6] at H
        have c6b0 : (a0 == 40) = false := beq_eq_false_iff_ne.mpr c6
        have c6b1 : (a0 != 40) = true := bne_iff_ne.mpr c6
        by_cases c9 : a0 = 41
        · rw [if_pos c9] at H
          have c9b0 : (a0 == 41) = true := beq_iff_eq.mpr c9
          have c9b1 : (a0 != 41) = false := bne_eq_false_iff_eq.mpr c9
          clear c9
          replace H := Option.bind_eq_some_iff.mp H
          obtain ⟨t103, A100, H⟩ := H
          replace H : ((bulkheadref01_Signed.f a2).bind fun t104 => (some (decide (t103 ≥ t104), 0))) = some (r1, r2) := H
          have A10 := Aside0.mk A100
          clear A100
          replace H := Option.bind_eq_some_iff.mp H
          obtain ⟨t104, A110, H⟩ := H
          replace H : (some (decide (t103 ≥ t104), 0)) = some (r1, r2) := H
          have A11 := Aside0.mk A110
          clear A110
          simp only [Option.some.injEq, Prod.mk.injEq] at H
          obtain ⟨rfl, rfl⟩ := H
          go_enter Try.func18, Try.ntmps18
          go_wp2_with (first | ((with_reducible refine gate_callee (f := 23) rfl ?_); refine goesL_ (some 29) rfl rfl Try.func23 (by kernel_rfl) rfl #[.int .u32 a1] rfl (by (try simp only [List.map_toArray, List.map_cons, List.map_nil]); first | done | rfl | (simp only [List.length_drop, List.length_take]; rfl)) ?_; (with_reducible refine (bulkheadref01_Signed.calls a1 t103 _ A10.out).mono ?_); rintro e w' ⟨rfl, ⟨nd, rfl⟩⟩; refine ⟨_, rfl, ?_⟩) | ((with_reducible refine gate_callee (f := 23) rfl ?_); refine goesL_ (some 31) rfl rfl Try.func23 (by kernel_rfl) rfl #[.int .u32 a2] rfl (by (try simp only [List.map_toArray, List.map_cons, List.map_nil]); first | done | rfl | (simp only [List.length_drop, List.length_take]; rfl)) ?_; (with_reducible refine (bulkheadref01_Signed.calls a2 t104 _ A11.out).mono ?_); rintro e w' ⟨rfl, ⟨nd, rfl⟩⟩; refine ⟨_, rfl, ?_⟩))
          go_ret2
          exact ⟨by first | rfl | (simp; done) | (simp [*]; done), by repeat (first | exact Drawn0.refl _ | apply Drawn0.step)⟩
        · rw [if_neg c9] at H
          have c9b0 : (a0 == 41) = false := beq_eq_false_iff_ne.mpr c9
          have c9b1 : (a0 != 41) = true := bne_iff_ne.mpr c9
          by_cases c12 : a0 = 42
          · rw [if_pos c12] at H
            have c12b0 : (a0 == 42) = true := beq_iff_eq.mpr c12
            have c12b1 : (a0 != 42) = false := bne_eq_false_iff_eq.mpr c12
            clear c12
            simp only [Option.some.injEq, Prod.mk.injEq] at H
            obtain ⟨rfl, rfl⟩ := H
            go_enter Try.func18, Try.ntmps18
            go_wp2
            go_ret2
            exact ⟨by first | rfl | (simp; done) | (simp [*]; done), by repeat (first | exact Drawn0.refl _ | apply Drawn0.step)⟩
          · rw [if_neg c12] at H
            have c12b0 : (a0 == 42) = false := beq_eq_false_iff_ne.mpr c12
            have c12b1 : (a0 != 42) = true := bne_iff_ne.mpr c12
            by_cases c13 : a0 = 43
            · rw [if_pos c13] at H
              have c13b0 : (a0 == 43) = true := beq_iff_eq.mpr c13
              have c13b1 : (a0 != 43) = false := bne_eq_false_iff_eq.mpr c13
              clear c13
              simp only [Option.some.injEq, Prod.mk.injEq] at H
              obtain ⟨rfl, rfl⟩ := H
              go_enter Try.func18, Try.ntmps18
              go_wp2
              go_ret2
              exact ⟨by first | rfl | (simp; done) | (simp [*]; done), by repeat (first | exact Drawn0.refl _ | apply Drawn0.step)⟩
            · rw [if_neg c13] at H
              have c13b0 : (a0 == 43) = false := beq_eq_false_iff_ne.mpr c13
              have c13b1 : (a0 != 43) = true := bne_iff_ne.mpr c13
              simp only [Option.some.injEq, Prod.mk.injEq] at H
              obtain ⟨rfl, rfl⟩ := H
              go_enter Try.func18, Try.ntmps18
              go_wp2
              go_ret2
              exact ⟨by first | rfl | (simp; done) | (simp [*]; done), by repeat (first | exact Drawn0.refl _ | apply Drawn0.step)⟩

/-! ### bulkheadlaw01_WordBranches: function 5 -/
def bulkheadlaw01_WordBranches.f (a0 : Int) (a1 : Int) (a2 : Int) : Option (Bool) := (word_Branch.f a0 a1 a2).bind fun bt105 => ((bulkheadref01_Branch.f a0 a1 a2).bind fun bt107 => (if (bt105.1 == bt107.1) = true then (some (bt105.2 == bt107.2)) else (some false)))
set_option maxHeartbeats 8000000 in
set_option maxRecDepth 100000 in
theorem bulkheadlaw01_WordBranches.calls (a0 : Int) (a1 : Int) (a2 : Int) (r : Bool) (w : World) (h : bulkheadlaw01_WordBranches.f a0 a1 a2 = some r) :
    Calls Try.prog 5 #[.int .i64 a0, .int .u32 a1, .int .u32 a2] w fun e w' => e = .returned (.bool r) ∧ Drawn0 w w' := by
  have H : ((word_Branch.f a0 a1 a2).bind fun bt105 => ((bulkheadref01_Branch.f a0 a1 a2).bind fun bt107 => (if (bt105.1 == bt107.1) = true then (some (bt105.2 == bt107.2)) else (some false)))) = some r := h
  clear h
  replace H := Option.bind_eq_some_iff.mp H
  obtain ⟨⟨t105, t106⟩, A40, H⟩ := H
  replace H : ((bulkheadref01_Branch.f a0 a1 a2).bind fun bt107 => (if (t105 == bt107.1) = true then (some (t106 == bt107.2)) else (some false))) = some r := H
  have A4 := Aside0.mk A40
  clear A40
  replace H := Option.bind_eq_some_iff.mp H
  obtain ⟨⟨t107, t108⟩, A50, H⟩ := H
  replace H : (if (t105 == t107) = true then (some (t106 == t108)) else (some false)) = some r := H
  have A5 := Aside0.mk A50
  clear A50
  by_cases c6 : (t105 == t107) = true
  · rw [if_pos c6] at H
    have c6b0 : (t105 == t107) = true := c6
    (try (have c6b1 : decide (t105 = t107) = true := by simpa using c6))
    (try (have c6b2 : (t105 == t107) = true := by simpa using c6))
    clear c6
    obtain rfl := Option.some.inj H
    go_enter Try.func5, Try.ntmps5
    go_wp2_with (first | ((with_reducible refine gate_callee (f := 17) rfl ?_); refine goesL_ (some 15) rfl rfl Try.func17 (by kernel_rfl) rfl #[.int .i64 a0, .int .u32 a1, .int .u32 a2] rfl (by (try simp only [List.map_toArray, List.map_cons, List.map_nil]); first | done | rfl | (simp only [List.length_drop, List.length_take]; rfl)) ?_; (with_reducible refine (word_Branch.calls a0 a1 a2 t105 t106 _ A4.out).mono ?_); rintro e w' ⟨rfl, ⟨nd, rfl⟩⟩; refine ⟨_, rfl, ?_⟩) | ((with_reducible refine gate_callee (f := 18) rfl ?_); refine goesL_ (some 22) rfl rfl Try.func18 (by kernel_rfl) rfl #[.int .i64 a0, .int .u32 a1, .int .u32 a2] rfl (by (try simp only [List.map_toArray, List.map_cons, List.map_nil]); first | done | rfl | (simp only [List.length_drop, List.length_take]; rfl)) ?_; (with_reducible refine (bulkheadref01_Branch.calls a0 a1 a2 t107 t108 _ A5.out).mono ?_); rintro e w' ⟨rfl, ⟨nd, rfl⟩⟩; refine ⟨_, rfl, ?_⟩))
    go_ret
    exact ⟨by first | rfl | (simp; done) | (simp [*]; done), by repeat (first | exact Drawn0.refl _ | apply Drawn0.step)⟩
  · rw [if_neg c6] at H
    have c6b0 : (t105 == t107) = false := by simpa using c6
    (try (have c6b1 : decide (t105 = t107) = false := by simpa using c6))
    (try (have c6b2 : (t105 == t107) = false := by simpa using c6))
    (try (have c6b3 : ¬ (t105 = t107) := by simpa using c6))
    clear c6
    obtain rfl := Option.some.inj H
    go_enter Try.func5, Try.ntmps5
    go_wp2_with (first | ((with_reducible refine gate_callee (f := 17) rfl ?_); refine goesL_ (some 15) rfl rfl Try.func17 (by kernel_rfl) rfl #[.int .i64 a0, .int .u32 a1, .int .u32 a2] rfl (by (try simp only [List.map_toArray, List.map_cons, List.map_nil]); first | done | rfl | (simp only [List.length_drop, List.length_take]; rfl)) ?_; (with_reducible refine (word_Branch.calls a0 a1 a2 t105 t106 _ A4.out).mono ?_); rintro e w' ⟨rfl, ⟨nd, rfl⟩⟩; refine ⟨_, rfl, ?_⟩) | ((with_reducible refine gate_callee (f := 18) rfl ?_); refine goesL_ (some 22) rfl rfl Try.func18 (by kernel_rfl) rfl #[.int .i64 a0, .int .u32 a1, .int .u32 a2] rfl (by (try simp only [List.map_toArray, List.map_cons, List.map_nil]); first | done | rfl | (simp only [List.length_drop, List.length_take]; rfl)) ?_; (with_reducible refine (bulkheadref01_Branch.calls a0 a1 a2 t107 t108 _ A5.out).mono ?_); rintro e w' ⟨rfl, ⟨nd, rfl⟩⟩; refine ⟨_, rfl, ?_⟩))
    go_ret
    exact ⟨by first | rfl | (simp; done) | (simp [*]; done), by repeat (first | exact Drawn0.refl _ | apply Drawn0.step)⟩

/-- THE ONE PURE STATEMENT of bulkheadlaw01_WordBranches: yours. -/
def bulkheadlaw01_WordBranches.Pure : Prop := ∀ (a0 : Int) (a1 : Int) (a2 : Int), (Lit.int .i64 a0).wf = true → (Lit.int .u32 a1).wf = true → (Lit.int .u32 a2).wf = true → bulkheadlaw01_WordBranches.f a0 a1 a2 = some true
theorem bulkheadlaw01_WordBranches.walk (P : bulkheadlaw01_WordBranches.Pure) (a0 : Int) (a1 : Int) (a2 : Int) (w : World) (w0 : (Lit.int .i64 a0).wf = true) (w1 : (Lit.int .u32 a1).wf = true) (w2 : (Lit.int .u32 a2).wf = true) :
    Calls Try.prog 5 #[.int .i64 a0, .int .u32 a1, .int .u32 a2] w fun e w' => e = .returned (.bool true) ∧ Below w.heap.size w w' := by
  have h := P a0 a1 a2 w0 w1 w2
  refine (bulkheadlaw01_WordBranches.calls a0 a1 a2 true w h).mono ?_
  rintro e w' ⟨rfl, hd⟩
  exact ⟨rfl, hd.below⟩

end Go.Proofs.Ythhhebdcccfgkaa.PWordBranches
