-- PRINTED BY print.sh 35421559b90ae4d0a3588c463048766b98c2df88dd9212a6774a882060cdf62d: not written by this session
import Derived.Test.YthhhebdcccfgkaaPWordExtendsx0
namespace Go.Proofs.Ythhhebdcccfgkaa.PWordExtends
open Go.RowKit Go.Proofs.YthhhebdcccfgkaaW.PrintWords Go.Proofs.YthhhebdcccfgkaaW.PrintLast Go.Proofs.YthhhebdcccfgkaaW.PrintMore
attribute [local go_sem] max2_int min2_int max_two min_two max_three min_three max_four min_four   -- for this text's walks alone
set_option linter.unusedVariables false
set_option linter.unusedSimpArgs false

/-! ### word_Extend: function 11 -/
def word_Extend.f (a0 : Int) (a1 : Int) (a2 : Bool) : Option (Int) := if a1 < 1 then (some 0) else (if a1 > 31 then (some a0) else (if a2 = true then (if 0 ≤ (wrap64 (32 - a1)) then (some ((shr .i32 (wrap32 (shl .u32 a0 (wrap64 (32 - a1)))) (wrap64 (32 - a1))) % 4294967296)) else (none)) else (if 0 ≤ (wrap64 (32 - a1)) then (some (shr .u32 (shl .u32 a0 (wrap64 (32 - a1))) (wrap64 (32 - a1)))) else (none))))
set_option maxHeartbeats 8000000 in
set_option maxRecDepth 100000 in
theorem word_Extend.calls (a0 : Int) (a1 : Int) (a2 : Bool) (r : Int) (w : World) (h : word_Extend.f a0 a1 a2 = some r) :
    Calls Try.prog 11 #[.int .u32 a0, .int .i64 a1, .bool a2] w fun e w' => e = .returned (.int .u32 r) ∧ Drawn0 w w' := by
  have H : (if a1 < 1 then (some 0) else (if a1 > 31 then (some a0) else (if a2 = true then (if 0 ≤ (wrap64 (32 - a1)) then (some ((shr .i32 (wrap32 (shl .u32 a0 (wrap64 (32 - a1)))) (wrap64 (32 - a1))) % 4294967296)) else (none)) else (if 0 ≤ (wrap64 (32 - a1)) then (some (shr .u32 (shl .u32 a0 (wrap64 (32 - a1))) (wrap64 (32 - a1)))) else (none))))) = some r := h
  clear h
  by_cases c4 : a1 < 1
  · rw [if_pos c4] at H
    have c4b0 : decide (a1 < 1) = true := decide_eq_true c4
    clear c4
    obtain rfl := Option.some.inj H
    go_enter Try.func11, Try.ntmps11
    go_wp2
    go_ret
    exact ⟨by first | rfl | (simp; done) | (simp [*]; done), by repeat (first | exact Drawn0.refl _ | apply Drawn0.step)⟩
  · rw [if_neg c4] at H
    have c4b0 : decide (a1 < 1) = false := decide_eq_false c4
    clear c4
    by_cases c5 : a1 > 31
    · rw [if_pos c5] at H
      have c5b0 : decide (31 < a1) = true := decide_eq_true c5
      clear c5
      obtain rfl := Option.some.inj H
      go_enter Try.func11, Try.ntmps11
      go_wp2
      go_ret
      exact ⟨by first | rfl | (simp; done) | (simp [*]; done), by repeat (first | exact Drawn0.refl _ | apply Drawn0.step)⟩
    · rw [if_neg c5] at H
      have c5b0 : decide (31 < a1) = false := decide_eq_false c5
      clear c5
      by_cases c6 : a2 = true
      · subst c6
        have H1 : (if 0 ≤ (wrap64 (32 - a1)) then (some ((shr .i32 (wrap32 (shl .u32 a0 (wrap64 (32 - a1)))) (wrap64 (32 - a1))) % 4294967296)) else (none)) = some r := by rw [if_pos rfl] at H; exact H
        clear H
        have H := H1
        clear H1
        obtain ⟨ji7, hji7⟩ : ∃ j_ : Int, (wrap64 (32 - a1)) = j_ := ⟨_, rfl⟩
        replace H : (if 0 ≤ (ji7) then (some ((shr .i32 (wrap32 (shl .u32 a0 (ji7))) (ji7)) % 4294967296)) else (none)) = some r := by first | (rw [hji7] at H; exact H) | (simp only [hji7] at H ⊢; exact H)
        have hji7w : (IntKind.i64.wrap (32 - a1)) = ji7 := (i64_w _).trans hji7
        by_cases c8 : 0 ≤ (ji7)
        · rw [if_pos c8] at H
          have c8b0 := eq_true c8
          have c8b1 : decide (0 ≤ (ji7)) = true := decide_eq_true c8
          clear c8
          obtain ⟨ji9, hji9⟩ : ∃ j_ : Int, (shl .u32 a0 (ji7)) = j_ := ⟨_, rfl⟩
          replace H : (some ((shr .i32 (wrap32 (ji9)) (ji7)) % 4294967296)) = some r := by first | (rw [hji9] at H; exact H) | (simp only [hji9] at H ⊢; exact H)
          have hji9_ : (IntKind.u32.wrap (a0 * 2 ^ min (ji7).toNat 32)) = ji9 := hji9
          have hji9z : (ji7) ≤ 32 → (IntKind.u32.wrap (a0 * 2 ^ (ji7).toNat)) = ji9 := shl_small hji9
          have c10b0 := eq_true (of_decide_eq_true (by first | (with_reducible assumption) | assumption) : 0 ≤ (ji7))
          obtain ⟨ji11, hji11⟩ : ∃ j_ : Int, (shr .i32 (wrap32 (ji9)) (ji7)) = j_ := ⟨_, rfl⟩
          replace H : (some ((ji11) % 4294967296)) = some r := by first | (rw [hji11] at H; exact H) | (simp only [hji11] at H ⊢; exact H)
          have hji11_ : ((wrap32 (ji9)) / 2 ^ min (ji7).toNat 32) = ji11 := hji11
          have hji11z : (ji7) ≤ 32 → ((wrap32 (ji9)) / 2 ^ (ji7).toNat) = ji11 := shr_small hji11
          obtain rfl := Option.some.inj H
          go_enter Try.func11, Try.ntmps11
          go_wp2
          go_ret
          exact ⟨by first | rfl | (simp; done) | (simp only [← hji7, ← hji9, ← hji11] <;> (first | rfl | simp)) | (simp [*]; done), by repeat (first | exact Drawn0.refl _ | apply Drawn0.step)⟩
        · rw [if_neg c8] at H
          exact absurd H (by simp)
      · replace c6 := Bool.eq_false_iff.mpr c6
        subst c6
        have H1 : (if 0 ≤ (wrap64 (32 - a1)) then (some (shr .u32 (shl .u32 a0 (wrap64 (32 - a1))) (wrap64 (32 - a1)))) else (none)) = some r := by rw [if_neg (show ¬ (false = true) by decide)] at H; exact H
        clear H
        have H := H1
        clear H1
        obtain ⟨ji12, hji12⟩ : ∃ j_ : Int, (wrap64 (32 - a1)) = j_ := ⟨_, rfl⟩
        replace H : (if 0 ≤ (ji12) then (some (shr .u32 (shl .u32 a0 (ji12)) (ji12))) else (none)) = some r := by first | (rw [hji12] at H; exact H) | (simp only [hji12] at H ⊢; exact H)
        have hji12w : (IntKind.i64.wrap (32 - a1)) = ji12 := (i64_w _).trans hji12
        by_cases c13 : 0 ≤ (ji12)
        · rw [if_pos c13] at H
          have c13b0 := eq_true c13
          have c13b1 : decide (0 ≤ (ji12)) = true := decide_eq_true c13
          clear c13
          obtain ⟨ji14, hji14⟩ : ∃ j_ : Int, (shl .u32 a0 (ji12)) = j_ := ⟨_, rfl⟩
          replace H : (some (shr .u32 (ji14) (ji12))) = some r := by first | (rw [hji14] at H; exact H) | (simp only [hji14] at H ⊢; exact H)
          have hji14_ : (IntKind.u32.wrap (a0 * 2 ^ min (ji12).toNat 32)) = ji14 := hji14
          have hji14z : (ji12) ≤ 32 → (IntKind.u32.wrap (a0 * 2 ^ (ji12).toNat)) = ji14 := shl_small hji14
          have c15b0 := eq_true (of_decide_eq_true (by first | (with_reducible assumption) | assumption) : 0 ≤ (ji12))
          obtain ⟨ji16, hji16⟩ : ∃ j_ : Int, (shr .u32 (ji14) (ji12)) = j_ := ⟨_, rfl⟩
          replace H : (some ji16) = some r := by first | (rw [hji16] at H; exact H) | (simp only [hji16] at H ⊢; exact H)
          have hji16_ : ((ji14) / 2 ^ min (ji12).toNat 32) = ji16 := hji16
          have hji16z : (ji12) ≤ 32 → ((ji14) / 2 ^ (ji12).toNat) = ji16 := shr_small hji16
          obtain rfl := Option.some.inj H
          go_enter Try.func11, Try.ntmps11
          go_wp2
          go_ret
          exact ⟨by first | rfl | (simp; done) | (simp only [← hji12, ← hji14, ← hji16] <;> (first | rfl | simp)) | (simp [*]; done), by repeat (first | exact Drawn0.refl _ | apply Drawn0.step)⟩
        · rw [if_neg c13] at H
          exact absurd H (by simp)

/-! ### bulkheadref01_Word: function 22 -/
def bulkheadref01_Word.f (a0 : Int) : Option (Int) := some ((Go.bits .and .i64 a0 4294967295) % 4294967296)
set_option maxHeartbeats 8000000 in
set_option maxRecDepth 100000 in
theorem bulkheadref01_Word.calls (a0 : Int) (r : Int) (w : World) (h : bulkheadref01_Word.f a0 = some r) :
    Calls Try.prog 22 #[.int .i64 a0] w fun e w' => e = .returned (.int .u32 r) ∧ Drawn0 w w' := by
  have H : (some ((Go.bits .and .i64 a0 4294967295) % 4294967296)) = some r := h
  clear h
  obtain rfl := Option.some.inj H
  go_enter Try.func22, Try.ntmps22
  go_wp2
  go_ret
  exact ⟨by first | rfl | (simp; done) | (simp [*]; done), by repeat (first | exact Drawn0.refl _ | apply Drawn0.step)⟩

/-! ### bulkheadref01_Extend: function 12 -/
def bulkheadref01_Extend.f (a0 : Int) (a1 : Int) (a2 : Bool) : Option (Int) := if a1 < 1 then (some 0) else (if a1 > 31 then (some a0) else (if 0 ≤ a1 then (if (shl .i64 1 a1) = 0 then (none) else (if a2 = true then (if (Int.tmod (wrap64 (a0)) (shl .i64 1 a1)) ≥ (wrap64 (Int.tdiv (shl .i64 1 a1) 2)) then ((bulkheadref01_Word.f (wrap64 ((Int.tmod (wrap64 (a0)) (shl .i64 1 a1)) - (shl .i64 1 a1)))).bind fun t101 => (some t101)) else ((bulkheadref01_Word.f (Int.tmod (wrap64 (a0)) (shl .i64 1 a1))).bind fun t102 => (some t102))) else ((bulkheadref01_Word.f (Int.tmod (wrap64 (a0)) (shl .i64 1 a1))).bind fun t103 => (some t103)))) else (none)))
set_option maxHeartbeats 8000000 in
set_option maxRecDepth 100000 in
theorem bulkheadref01_Extend.calls (a0 : Int) (a1 : Int) (a2 : Bool) (r : Int) (w : World) (h : bulkheadref01_Extend.f a0 a1 a2 = some r) :
    Calls Try.prog 12 #[.int .u32 a0, .int .i64 a1, .bool a2] w fun e w' => e = .returned (.int .u32 r) ∧ Drawn0 w w' := by
  have H : (if a1 < 1 then (some 0) else (if a1 > 31 then (some a0) else (if 0 ≤ a1 then (if (shl .i64 1 a1) = 0 then (none) else (if a2 = true then (if (Int.tmod (wrap64 (a0)) (shl .i64 1 a1)) ≥ (wrap64 (Int.tdiv (shl .i64 1 a1) 2)) then ((bulkheadref01_Word.f (wrap64 ((Int.tmod (wrap64 (a0)) (shl .i64 1 a1)) - (shl .i64 1 a1)))).bind fun t101 => (some t101)) else ((bulkheadref01_Word.f (Int.tmod (wrap64 (a0)) (shl .i64 1 a1))).bind fun t102 => (some t102))) else ((bulkheadref01_Word.f (Int.tmod (wrap64 (a0)) (shl .i64 1 a1))).bind fun t103 => (some t103)))) else (none)))) = some r := h
  clear h
  by_cases c4 : a1 < 1
  · rw [if_pos c4] at H
    have c4b0 : decide (a1 < 1) = true := decide_eq_true c4
    clear c4
    obtain rfl := Option.some.inj H
    go_enter Try.func12, Try.ntmps12
    go_wp2
    go_ret
    exact ⟨by first | rfl | (simp; done) | (simp [*]; done), by repeat (first | exact Drawn0.refl _ | apply Drawn0.step)⟩
  · rw [if_neg c4] at H
    have c4b0 : decide (a1 < 1) = false := decide_eq_false c4
    clear c4
    by_cases c5 : a1 > 31
    · rw [if_pos c5] at H
      have c5b0 : decide (31 < a1) = true := decide_eq_true c5
      clear c5
      obtain rfl := Option.some.inj H
      go_enter Try.func12, Try.ntmps12
      go_wp2
      go_ret
      exact ⟨by first | rfl | (simp; done) | (simp [*]; done), by repeat (first | exact Drawn0.refl _ | apply Drawn0.step)⟩
    · rw [if_neg c5] at H
      have c5b0 : decide (31 < a1) = false := decide_eq_false c5
      clear c5
      by_cases c6 : 0 ≤ a1
      · rw [if_pos c6] at H
        have c6b0 := eq_true c6
        have c6b1 : decide (0 ≤ a1) = true := decide_eq_true c6
        clear c6
        obtain ⟨ji7, hji7⟩ : ∃ j_ : Int, (shl .i64 1 a1) = j_ := ⟨_, rfl⟩
        replace H : (if (ji7) = 0 then (none) else (if a2 = true then (if (Int.tmod (wrap64 (a0)) (ji7)) ≥ (wrap64 (Int.tdiv (ji7) 2)) then ((bulkheadref01_Word.f (wrap64 ((Int.tmod (wrap64 (a0)) (ji7)) - (ji7)))).bind fun t101 => (some t101)) else ((bulkheadref01_Word.f (Int.tmod (wrap64 (a0)) (ji7))).bind fun t102 => (some t102))) else ((bulkheadref01_Word.f (Int.tmod (wrap64 (a0)) (ji7))).bind fun t103 => (some t103)))) = some r := by first | (rw [hji7] at H; exact H) | (simp only [hji7] at H ⊢; exact H)
        have hji7_ : (IntKind.i64.wrap (1 * 2 ^ min a1.toNat 64)) = ji7 := hji7
        have hji7z : a1 ≤ 64 → (IntKind.i64.wrap (1 * 2 ^ a1.toNat)) = ji7 := shl_small hji7
        have hji7u : (IntKind.i64.wrap (2 ^ min a1.toNat 64)) = ji7 := by have h_ := hji7_; rw [Int.one_mul] at h_; exact h_
        have hji7v : a1 ≤ 64 → (IntKind.i64.wrap (2 ^ a1.toNat)) = ji7 := fun hle_ => by have h_ := hji7z hle_; rw [Int.one_mul] at h_; exact h_
        have hji7y : (wrap64 (1 * 2 ^ min a1.toNat 64)) = ji7 := (i64_w _).symm.trans hji7_
        have hji7x : a1 ≤ 64 → (wrap64 (1 * 2 ^ a1.toNat)) = ji7 := fun h_ => (i64_w _).symm.trans (hji7z h_)
        by_cases c8 : (ji7) = 0
        · rw [if_pos c8] at H
          exact absurd H (by simp)
        · rw [if_neg c8] at H
          have c8b0 : ((ji7) == 0) = false := beq_eq_false_iff_ne.mpr c8
          have c8b1 : ((ji7) != 0) = true := bne_iff_ne.mpr c8
          by_cases c9 : a2 = true
          · subst c9
            have H1 : (if (Int.tmod (wrap64 (a0)) (ji7)) ≥ (wrap64 (Int.tdiv (ji7) 2)) then ((bulkheadref01_Word.f (wrap64 ((Int.tmod (wrap64 (a0)) (ji7)) - (ji7)))).bind fun t101 => (some t101)) else ((bulkheadref01_Word.f (Int.tmod (wrap64 (a0)) (ji7))).bind fun t102 => (some t102))) = some r := by rw [if_pos rfl] at H; exact H
            clear H
            have H := H1
            clear H1
            by_cases c10 : (Int.tmod (wrap64 (a0)) (ji7)) ≥ (wrap64 (Int.tdiv (ji7) 2))
            · rw [if_pos c10] at H
              have c10b0 : decide ((wrap64 (Int.tdiv (ji7) 2)) ≤ (Int.tmod (wrap64 (a0)) (ji7))) = true := decide_eq_true c10
              clear c10
              replace H := Option.bind_eq_some_iff.mp H
              obtain ⟨t101, A110, H⟩ := H
              replace H : (some t101) = some r := H
              have A11 := Aside0.mk A110
              clear A110
              obtain rfl := Option.some.inj H
              go_enter Try.func12, Try.ntmps12
              go_wp2_with (first | ((with_reducible refine gate_callee (f := 22) rfl ?_); refine goesL_ (some 31) rfl rfl Try.func22 (by kernel_rfl) rfl #[.int .i64 (wrap64 ((Int.tmod (wrap64 (a0)) (ji7)) - (ji7)))] rfl (by (try simp only [List.map_toArray, List.map_cons, List.map_nil]); first | done | (simp only [hji7]; rfl) | rfl | (simp only [List.length_drop, List.length_take]; rfl)) ?_; (with_reducible refine (bulkheadref01_Word.calls (wrap64 ((Int.tmod (wrap64 (a0)) (ji7)) - (ji7))) t101 _ A11.out).mono ?_); rintro e w' ⟨rfl, ⟨nd, rfl⟩⟩; refine ⟨_, rfl, ?_⟩))
              go_ret
              exact ⟨by first | rfl | (simp; done) | (simp only [← hji7] <;> (first | rfl | simp)) | (simp [*]; done), by repeat (first | exact Drawn0.refl _ | apply Drawn0.step)⟩
            · rw [if_neg c10] at H
              have c10b0 : decide ((wrap64 (Int.tdiv (ji7) 2)) ≤ (Int.tmod (wrap64 (a0)) (ji7))) = false := decide_eq_false c10
              clear c10
              replace H := Option.bind_eq_some_iff.mp H
              obtain ⟨t102, A120, H⟩ := H
              replace H : (some t102) = some r := H
              have A12 := Aside0.mk A120
              clear A120
              obtain rfl := Option.some.inj H
              go_enter Try.func12, Try.ntmps12
              go_wp2_with (first | ((with_reducible refine gate_callee (f := 22) rfl ?_); refine goesL_ (some 31) rfl rfl Try.func22 (by kernel_rfl) rfl #[.int .i64 (Int.tmod (wrap64 (a0)) (ji7))] rfl (by (try simp only [List.map_toArray, List.map_cons, List.map_nil]); first | done | (simp only [hji7]; rfl) | rfl | (simp only [List.length_drop, List.length_take]; rfl)) ?_; (with_reducible refine (bulkheadref01_Word.calls (Int.tmod (wrap64 (a0)) (ji7)) t102 _ A12.out).mono ?_); rintro e w' ⟨rfl, ⟨nd, rfl⟩⟩; refine ⟨_, rfl, ?_⟩))
              go_ret
              exact ⟨by first | rfl | (simp; done) | (simp only [← hji7] <;> (first | rfl | simp)) | (simp [*]; done), by repeat (first | exact Drawn0.refl _ | apply Drawn0.step)⟩
          · replace c9 := Bool.eq_false_iff.mpr c9
            subst c9
            have H1 : ((bulkheadref01_Word.f (Int.tmod (wrap64 (a0)) (ji7))).bind fun t103 => (some t103)) = some r := by rw [if_neg (show ¬ (false = true) by decide)] at H; exact H
            clear H
            have H := H1
            clear H1
            replace H := Option.bind_eq_some_iff.mp H
            obtain ⟨t103, A130, H⟩ := H
            replace H : (some t103) = some r := H
            have A13 := Aside0.mk A130
            clear A130
            obtain rfl := Option.some.inj H
            go_enter Try.func12, Try.ntmps12
            go_wp2_with (first | ((with_reducible refine gate_callee (f := 22) rfl ?_); refine goesL_ (some 31) rfl rfl Try.func22 (by kernel_rfl) rfl #[.int .i64 (Int.tmod (wrap64 (a0)) (ji7))] rfl (by (try simp only [List.map_toArray, List.map_cons, List.map_nil]); first | done | (simp only [hji7]; rfl) | rfl | (simp only [List.length_drop, List.length_take]; rfl)) ?_; (with_reducible refine (bulkheadref01_Word.calls (Int.tmod (wrap64 (a0)) (ji7)) t103 _ A13.out).mono ?_); rintro e w' ⟨rfl, ⟨nd, rfl⟩⟩; refine ⟨_, rfl, ?_⟩))
            go_ret
            exact ⟨by first | rfl | (simp; done) | (simp only [← hji7] <;> (first | rfl | simp)) | (simp [*]; done), by repeat (first | exact Drawn0.refl _ | apply Drawn0.step)⟩
      · rw [if_neg c6] at H
        exact absurd H (by simp)

/-! ### bulkheadlaw01_WordExtends: function 3 -/
def bulkheadlaw01_WordExtends.f (a0 : Int) (a1 : Int) (a2 : Bool) : Option (Bool) := (word_Extend.f a0 a1 a2).bind fun t104 => ((bulkheadref01_Extend.f a0 a1 a2).bind fun t105 => (some (t104 == t105)))
set_option maxHeartbeats 8000000 in
set_option maxRecDepth 100000 in
theorem bulkheadlaw01_WordExtends.calls (a0 : Int) (a1 : Int) (a2 : Bool) (r : Bool) (w : World) (h : bulkheadlaw01_WordExtends.f a0 a1 a2 = some r) :
    Calls Try.prog 3 #[.int .u32 a0, .int .i64 a1, .bool a2] w fun e w' => e = .returned (.bool r) ∧ Drawn0 w w' := by
  have H : ((word_Extend.f a0 a1 a2).bind fun t104 => ((bulkheadref01_Extend.f a0 a1 a2).bind fun t105 => (some (t104 == t105)))) = some r := h
  clear h
  replace H := Option.bind_eq_some_iff.mp H
  obtain ⟨t104, A40, H⟩ := H
  replace H : ((bulkheadref01_Extend.f a0 a1 a2).bind fun t105 => (some (t104 == t105))) = some r := H
  have A4 := Aside0.mk A40
  clear A40
  replace H := Option.bind_eq_some_iff.mp H
  obtain ⟨t105, A50, H⟩ := H
  replace H : (some (t104 == t105)) = some r := H
  have A5 := Aside0.mk A50
  clear A50
  obtain rfl := Option.some.inj H
  go_enter Try.func3, Try.ntmps3
  go_wp2_with (first | ((with_reducible refine gate_callee (f := 11) rfl ?_); refine goesL_ (some 10) rfl rfl Try.func11 (by kernel_rfl) rfl #[.int .u32 a0, .int .i64 a1, .bool a2] rfl (by (try simp only [List.map_toArray, List.map_cons, List.map_nil]); first | done | rfl | (simp only [List.length_drop, List.length_take]; rfl)) ?_; (with_reducible refine (word_Extend.calls a0 a1 a2 t104 _ A4.out).mono ?_); rintro e w' ⟨rfl, ⟨nd, rfl⟩⟩; refine ⟨_, rfl, ?_⟩) | ((with_reducible refine gate_callee (f := 12) rfl ?_); refine goesL_ (some 14) rfl rfl Try.func12 (by kernel_rfl) rfl #[.int .u32 a0, .int .i64 a1, .bool a2] rfl (by (try simp only [List.map_toArray, List.map_cons, List.map_nil]); first | done | rfl | (simp only [List.length_drop, List.length_take]; rfl)) ?_; (with_reducible refine (bulkheadref01_Extend.calls a0 a1 a2 t105 _ A5.out).mono ?_); rintro e w' ⟨rfl, ⟨nd, rfl⟩⟩; refine ⟨_, rfl, ?_⟩))
  go_ret
  exact ⟨by first | rfl | (simp; done) | (simp [*]; done), by repeat (first | exact Drawn0.refl _ | apply Drawn0.step)⟩

/-- THE ONE PURE STATEMENT of bulkheadlaw01_WordExtends: yours. -/
def bulkheadlaw01_WordExtends.Pure : Prop := ∀ (a0 : Int) (a1 : Int) (a2 : Bool), (Lit.int .u32 a0).wf = true → (Lit.int .i64 a1).wf = true → bulkheadlaw01_WordExtends.f a0 a1 a2 = some true
theorem bulkheadlaw01_WordExtends.walk (P : bulkheadlaw01_WordExtends.Pure) (a0 : Int) (a1 : Int) (a2 : Bool) (w : World) (w0 : (Lit.int .u32 a0).wf = true) (w1 : (Lit.int .i64 a1).wf = true) :
    Calls Try.prog 3 #[.int .u32 a0, .int .i64 a1, .bool a2] w fun e w' => e = .returned (.bool true) ∧ Below w.heap.size w w' := by
  have h := P a0 a1 a2 w0 w1
  refine (bulkheadlaw01_WordExtends.calls a0 a1 a2 true w h).mono ?_
  rintro e w' ⟨rfl, hd⟩
  exact ⟨rfl, hd.below⟩

end Go.Proofs.Ythhhebdcccfgkaa.PWordExtends
