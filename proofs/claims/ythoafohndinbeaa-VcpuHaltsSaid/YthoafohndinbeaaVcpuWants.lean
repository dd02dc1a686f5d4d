/- What Wants comes to, in the program and in the reference. -/
import Derived.Test.YthoafohndinbeaaVcpuCheck
namespace Go.Proofs.Ythoafohndinbeaa.VcpuWants
open Go.RowKit Go.Proofs.Ythoafohndinbeaa.PVcpuBack Go.Proofs.YthoafohndinbeaaW.PrintWords Go.Proofs.YthoafohndinbeaaW.PrintLast Go.Proofs.YthoafohndinbeaaW.PrintMore Go.Proofs.Ythoafohndinbeaa.Aid Go.Proofs.Ythoafohndinbeaa.VcpuBase Go.Proofs.Ythoafohndinbeaa.VcpuCheck
attribute [local go_sem] get24 ge24 get25 ge25 get26 ge26 get27 ge27 get28 ge28 get29 ge29 get30 ge30 get31 ge31 get32 ge32 get33 ge33 get34 ge34 set24 set25 set26 set27 set28 set29 set30 set31 set32 set33 set34 vc_size
set_option maxHeartbeats 1600000
set_option maxRecDepth 100000
set_option linter.unusedVariables false
theorem bit1 {D : Nat} (hD : D < 4294967296) (i : Nat) : Go.bits .and .u32 ((D : Int) / 2 ^ i) 1 = (((D.testBit i).toNat : Nat) : Int) := by
  have h : (D : Int) / 2 ^ i = ((D / 2 ^ i : Nat) : Int) := by
    rw [← pow_cast]
    rfl
  have hle : D / 2 ^ i ≤ D := Nat.div_le_self _ _
  rw [h]
  have h2 := u32_and_nat (D / 2 ^ i) 1 (by omega) (by omega)
  rw [nat_mask1] at h2
  rw [Nat.toNat_testBit]
  exact h2
section
variable (c : Cx) (p : Int) (w : World)
theorem want_halt (h : (c.ha == 0) = false) (h' : (c.ha != 0) = true) : Calls Try.prog 15 #[.agg (vc c), .int .u32 p] w fun e w' => e = .returned (.tuple #[.int .i64 0, .bool false]) ∧ Below w.heap.size w w' := by
  go_enter Try.func15, Try.ntmps15
  go_wp2_with fail
  go_ret2
  exact ⟨rfl, by repeat (first | exact Below.refl _ _ | apply below_alloc | apply pw_below_drewN | apply below_drew)⟩
theorem want_off (h : (c.ha == 0) = true) (h' : (c.ha != 0) = false) (h1 : (Go.bits .and .u32 c.st 5 == 1) = false) (h1' : (Go.bits .and .u32 c.st 5 != 1) = true) : Calls Try.prog 15 #[.agg (vc c), .int .u32 p] w fun e w' => e = .returned (.tuple #[.int .i64 0, .bool false]) ∧ Below w.heap.size w w' := by
  go_enter Try.func15, Try.ntmps15
  go_wp2_with fail
  go_ret2
  exact ⟨rfl, by repeat (first | exact Below.refl _ _ | apply below_alloc | apply pw_below_drewN | apply below_drew)⟩
/-- The walk of the loop: D is what is pending and let through; n is the least of its lines (8: there is none). -/
theorem want_loop (D n : Nat) (h : (c.ha == 0) = true) (h' : (c.ha != 0) = false) (h1 : (Go.bits .and .u32 c.st 5 == 1) = true) (h1' : (Go.bits .and .u32 c.st 5 != 1) = false) (hD : Aside0 (Go.bits .and .u32 p c.ma = (D : Int))) (D1 : Aside0 (D < 4294967296))
    (hn : n ≤ 8) (hz : Aside0 (∀ j, j < n → D.testBit j = false)) (hb : Aside0 (n < 8 → D.testBit n = true)) :
    Calls Try.prog 15 #[.agg (vc c), .int .u32 p] w fun e w' => e = .returned (.tuple #[.int .i64 (if n < 8 then (n : Int) else 0), .bool (decide (n < 8))]) ∧ Below w.heap.size w w' := by
  by_cases hn8 : n < 8
  · rw [if_pos hn8, decide_eq_true hn8]
    go_enter Try.func15, Try.ntmps15
    go_wp2_with fail
    go_loop [17] (fun v => ∃ k : Nat, k ≤ n ∧ v = .int .i64 k) (fun v => 8 - (intOf v).toNat)
    case atStart => exact ⟨0, by omega, rfl⟩
    case round =>
      obtain ⟨k, hk, rfl⟩ := hrel
      have k8 : decide ((k : Int) < 8) = true := decide_eq_true (by omega)
      by_cases hlt : k < n
      · have t1 : (Go.bits .and .u32 ((D : Int) / 2 ^ k) 1 == 1) = false := by
          rw [bit1 D1.out, hz.out k hlt]
          rfl
        go_wp2_with (rw [hD.out])
        go_round
        case rel => exact ⟨k + 1, by omega, by go_num⟩
        case measure =>
          simp [intOf]
          omega
      · obtain rfl : k = n := by omega
        have t1 : (Go.bits .and .u32 ((D : Int) / 2 ^ k) 1 == 1) = true := by
          rw [bit1 D1.out, hb.out hn8]
          rfl
        go_wp2_with (rw [hD.out])
        go_ret2
        exact ⟨rfl, by repeat (first | exact Below.refl _ _ | apply below_alloc | apply pw_below_drewN | apply below_drew)⟩
  · rw [if_neg hn8, decide_eq_false hn8]
    go_enter Try.func15, Try.ntmps15
    go_wp2_with fail
    go_loop [17] (fun v => ∃ k : Nat, k ≤ n ∧ v = .int .i64 k) (fun v => 8 - (intOf v).toNat)
    case atStart => exact ⟨0, by omega, rfl⟩
    case round =>
      obtain ⟨k, hk, rfl⟩ := hrel
      by_cases hlt : k < n
      · have k8 : decide ((k : Int) < 8) = true := decide_eq_true (by omega)
        have t1 : (Go.bits .and .u32 ((D : Int) / 2 ^ k) 1 == 1) = false := by
          rw [bit1 D1.out, hz.out k hlt]
          rfl
        go_wp2_with (rw [hD.out])
        go_round
        case rel => exact ⟨k + 1, by omega, by go_num⟩
        case measure =>
          simp [intOf]
          omega
      · have k8 : decide ((k : Int) < 8) = false := decide_eq_false (by omega)
        go_wp2_with fail
        go_ret2
        exact ⟨rfl, by repeat (first | exact Below.refl _ _ | apply below_alloc | apply pw_below_drewN | apply below_drew)⟩
theorem rwant_halt (h : (c.ha == 0) = false) (h' : (c.ha != 0) = true) : Calls Try.prog 16 #[.agg (vc c), .int .u32 p] w fun e w' => e = .returned (.tuple #[.int .i64 0, .bool false]) ∧ Below w.heap.size w w' := by
  go_enter Try.func16, Try.ntmps16
  go_wp2_with fail
  go_ret2
  exact ⟨rfl, by repeat (first | exact Below.refl _ _ | apply below_alloc | apply pw_below_drewN | apply below_drew)⟩
theorem rwant_off (s0 : 0 ≤ c.st) (h : (c.ha == 0) = true) (h' : (c.ha != 0) = false) (h1 : (c.st % 2 == 0) = true) : Calls Try.prog 16 #[.agg (vc c), .int .u32 p] w fun e w' => e = .returned (.tuple #[.int .i64 0, .bool false]) ∧ Below w.heap.size w w' := by
  go_enter Try.func16, Try.ntmps16
  go_wp2_with fail
  go_ret2
  exact ⟨rfl, by repeat (first | exact Below.refl _ _ | apply below_alloc | apply pw_below_drewN | apply below_drew)⟩
theorem rwant_trap (s0 : 0 ≤ c.st) (s1 : c.st < 4294967296) (h : (c.ha == 0) = true) (h' : (c.ha != 0) = false) (h1 : (c.st % 2 == 0) = false) (h2 : (c.st / 4 % 2 == 1) = true) : Calls Try.prog 16 #[.agg (vc c), .int .u32 p] w fun e w' => e = .returned (.tuple #[.int .i64 0, .bool false]) ∧ Below w.heap.size w w' := by
  go_enter Try.func16, Try.ntmps16
  go_wp2_with fail
  go_ret2
  exact ⟨rfl, by repeat (first | exact Below.refl _ _ | apply below_alloc | apply pw_below_drewN | apply below_drew)⟩
theorem shr_bit {D : Nat} (i : Nat) : ((D : Int) / 2 ^ i % 2 == 1) = D.testBit i := by
  have h : (D : Int) / 2 ^ i = ((D / 2 ^ i : Nat) : Int) := by
    rw [← pow_cast]
    rfl
  rw [h, Nat.testBit_eq_decide_div_mod_eq]
  by_cases hb : D / 2 ^ i % 2 = 1
  · rw [decide_eq_true hb]
    have : ((D / 2 ^ i : Nat) : Int) % 2 = 1 := by omega
    rw [this]
    rfl
  · rw [decide_eq_false hb]
    refine beq_eq_false_iff_ne.2 ?_
    omega
theorem shr_pos (D i : Nat) : 0 ≤ (D : Int) / 2 ^ i := by
  have h : (D : Int) / 2 ^ i = ((D / 2 ^ i : Nat) : Int) := by
    rw [← pow_cast]
    rfl
  rw [h]
  exact Int.natCast_nonneg _
theorem rwant_loop (P M n : Nat) (s0 : 0 ≤ c.st) (s1 : c.st < 4294967296) (h : (c.ha == 0) = true) (h' : (c.ha != 0) = false) (h1 : (c.st % 2 == 0) = false) (h2 : (c.st / 4 % 2 == 1) = false) (hM : Aside0 (c.ma = (M : Int))) (P1 : P < 4294967296) (M1 : M < 4294967296)
    (hn : n ≤ 8) (hz : Aside0 (∀ j, j < n → (P &&& M).testBit j = false)) (hb : Aside0 (n < 8 → (P &&& M).testBit n = true)) :
    Calls Try.prog 16 #[.agg (vc c), .int .u32 P] w fun e w' => e = .returned (.tuple #[.int .i64 (if n < 8 then (n : Int) else 0), .bool (decide (n < 8))]) ∧ Below w.heap.size w w' := by
  by_cases hn8 : n < 8
  · rw [if_pos hn8, decide_eq_true hn8]
    go_enter Try.func16, Try.ntmps16
    go_wp2_with fail
    go_loop [6] (fun v => ∃ k : Nat, k ≤ n ∧ v = .int .i64 k) (fun v => 8 - (intOf v).toNat)
    case atStart => exact ⟨0, by omega, rfl⟩
    case round =>
      obtain ⟨k, hk, rfl⟩ := hrel
      have k8 : decide ((k : Int) < 8) = true := decide_eq_true (by omega)
      have p0 := shr_pos P k
      have m0 := shr_pos M k
      have tp := shr_bit (D := P) k
      have tm := shr_bit (D := M) k
      by_cases hlt : k < n
      · have hz1 := hz.out k hlt
        rw [Nat.testBit_and] at hz1
        cases hp : P.testBit k with
        | false =>
          rw [hp] at tp
          clear hz1 tm hp
          go_wp2_with (rw [hM.out])
          go_round
          case rel => exact ⟨k + 1, by omega, by go_num⟩
          case measure =>
            simp [intOf]
            omega
        | true =>
          rw [hp, Bool.true_and] at hz1
          rw [hp] at tp
          rw [hz1] at tm
          clear hz1 hp
          go_wp2_with (rw [hM.out])
          go_round
          case rel => exact ⟨k + 1, by omega, by go_num⟩
          case measure =>
            simp [intOf]
            omega
      · obtain rfl : k = n := by omega
        have hb1 := hb.out hn8
        rw [Nat.testBit_and, Bool.and_eq_true] at hb1
        rw [hb1.1] at tp
        rw [hb1.2] at tm
        clear hb1
        go_wp2_with (rw [hM.out])
        go_ret2
        exact ⟨rfl, by repeat (first | exact Below.refl _ _ | apply below_alloc | apply pw_below_drewN | apply below_drew)⟩
  · rw [if_neg hn8, decide_eq_false hn8]
    go_enter Try.func16, Try.ntmps16
    go_wp2_with fail
    go_loop [6] (fun v => ∃ k : Nat, k ≤ n ∧ v = .int .i64 k) (fun v => 8 - (intOf v).toNat)
    case atStart => exact ⟨0, by omega, rfl⟩
    case round =>
      obtain ⟨k, hk, rfl⟩ := hrel
      by_cases hlt : k < n
      · have k8 : decide ((k : Int) < 8) = true := decide_eq_true (by omega)
        have p0 := shr_pos P k
        have m0 := shr_pos M k
        have tp := shr_bit (D := P) k
        have tm := shr_bit (D := M) k
        have hz1 := hz.out k hlt
        rw [Nat.testBit_and] at hz1
        cases hp : P.testBit k with
        | false =>
          rw [hp] at tp
          clear hz1 tm hp
          go_wp2_with (rw [hM.out])
          go_round
          case rel => exact ⟨k + 1, by omega, by go_num⟩
          case measure =>
            simp [intOf]
            omega
        | true =>
          rw [hp, Bool.true_and] at hz1
          rw [hp] at tp
          rw [hz1] at tm
          clear hz1 hp
          go_wp2_with (rw [hM.out])
          go_round
          case rel => exact ⟨k + 1, by omega, by go_num⟩
          case measure =>
            simp [intOf]
            omega
      · have k8 : decide ((k : Int) < 8) = false := decide_eq_false (by omega)
        go_wp2_with fail
        go_ret2
        exact ⟨rfl, by repeat (first | exact Below.refl _ _ | apply below_alloc | apply pw_below_drewN | apply below_drew)⟩
theorem least (D : Nat) : ∀ m : Nat, ∃ n : Nat, n ≤ m ∧ (∀ j, j < n → D.testBit j = false) ∧ (n < m → D.testBit n = true)
  | 0 => ⟨0, by omega, fun j hj => absurd hj (by omega), fun h => absurd h (by omega)⟩
  | m + 1 => by
    obtain ⟨n, h1, h2, h3⟩ := least D m
    by_cases hn : n < m
    · exact ⟨n, by omega, h2, fun _ => h3 hn⟩
    · obtain rfl : n = m := by omega
      cases hb : D.testBit n with
      | true => exact ⟨n, by omega, h2, fun _ => hb⟩
      | false =>
        refine ⟨n + 1, by omega, fun j hj => ?_, fun h => absurd h (by omega)⟩
        by_cases hj2 : j < n
        · exact h2 j hj2
        · rwa [show j = n by omega]
/-- May a context take an interrupt at all? -/
def canB (c : Cx) : Bool := decide (c.ha = 0 ∧ c.st % 2 = 1 ∧ c.st / 4 % 2 = 0)
def wV (b : Bool) (n : Nat) : Int := if b = true ∧ n < 8 then (n : Int) else 0
def wB (b : Bool) (n : Nat) : Bool := b && decide (n < 8)
/-- n is the least line of D (8: there is none). -/
def Least (D n : Nat) : Prop := n ≤ 8 ∧ (∀ j, j < n → D.testBit j = false) ∧ (n < 8 → D.testBit n = true)
theorem mask5 {x : Int} (h0 : 0 ≤ x) (h1 : x < 4294967296) : (Go.bits .and .u32 x 5 == 1) = decide (x % 2 = 1 ∧ x / 4 % 2 = 0) := by
  obtain ⟨m, rfl⟩ := Int.eq_ofNat_of_zero_le h0
  have h := u32_and_nat m 5 (by omega) (by omega)
  rw [show ((5 : Nat) : Int) = 5 from rfl] at h
  rw [h]
  have e8 : (m &&& 5) = (m % 8) &&& 5 := by
    have h8 := Nat.and_mod_two_pow (a := m) (b := 5) (n := 3)
    have hle : m &&& 5 ≤ 5 := Nat.and_le_right
    rw [Nat.mod_eq_of_lt (show m &&& 5 < 2 ^ 3 by omega)] at h8
    exact h8
  have hr : m % 8 < 8 := Nat.mod_lt _ (by decide)
  have hmm : ∀ r : Nat, r < 8 → (((r &&& 5 : Nat) : Int) == 1) = decide (r % 2 = 1 ∧ r / 4 % 2 = 0) := by decide
  rw [e8, hmm _ hr]
  refine decide_eq_decide.2 ?_
  omega
theorem want_calls (P M n : Nat) (hf : Wf c) (hM : c.ma = (M : Int)) (P1 : P < 4294967296) (M1 : M < 4294967296) (hL : Least (P &&& M) n) :
    Calls Try.prog 15 #[.agg (vc c), .int .u32 P] w fun e w' => e = .returned (.tuple #[.int .i64 (wV (canB c) n), .bool (wB (canB c) n)]) ∧ Below w.heap.size w w' := by
  have h5 := mask5 hf.st.1 hf.st.2
  by_cases h : c.ha = 0
  · have q0 : (c.ha == 0) = true := by simp [h]
    have q1 : (c.ha != 0) = false := by simp [h]
    by_cases h1 : c.st % 2 = 1 ∧ c.st / 4 % 2 = 0
    · rw [show canB c = true from decide_eq_true ⟨h, h1.1, h1.2⟩]
      rw [decide_eq_true h1] at h5
      have e1 : wV true n = if n < 8 then (n : Int) else 0 := by simp [wV]
      have e2 : wB true n = decide (n < 8) := by simp [wB]
      rw [e1, e2]
      have hD : P &&& M < 4294967296 := Nat.lt_of_le_of_lt Nat.and_le_left P1
      exact want_loop c P w (P &&& M) n q0 q1 h5 (by rw [bne, h5]; rfl) ⟨by rw [hM, u32_and_nat P M P1 M1]⟩ ⟨hD⟩ hL.1 ⟨hL.2.1⟩ ⟨hL.2.2⟩
    · rw [show canB c = false from decide_eq_false fun h' => h1 h'.2]
      rw [decide_eq_false h1] at h5
      exact want_off c P w q0 q1 h5 (by rw [bne, h5]; rfl)
  · rw [show canB c = false from decide_eq_false fun h' => h h'.1]
    exact want_halt c P w (by simp [h]) (by simp [h])
theorem rwant_calls (P M n : Nat) (hf : Wf c) (hM : c.ma = (M : Int)) (P1 : P < 4294967296) (M1 : M < 4294967296) (hL : Least (P &&& M) n) :
    Calls Try.prog 16 #[.agg (vc c), .int .u32 P] w fun e w' => e = .returned (.tuple #[.int .i64 (wV (canB c) n), .bool (wB (canB c) n)]) ∧ Below w.heap.size w w' := by
  have s0 := hf.st.1
  by_cases h : c.ha = 0
  · have q0 : (c.ha == 0) = true := by simp [h]
    have q1 : (c.ha != 0) = false := by simp [h]
    by_cases h1 : c.st % 2 = 1
    · have q2 : (c.st % 2 == 0) = false := beq_eq_false_iff_ne.2 (by omega)
      by_cases h2 : c.st / 4 % 2 = 0
      · have q3 : (c.st / 4 % 2 == 1) = false := beq_eq_false_iff_ne.2 (by omega)
        rw [show canB c = true from decide_eq_true ⟨h, h1, h2⟩]
        have e1 : wV true n = if n < 8 then (n : Int) else 0 := by simp [wV]
        have e2 : wB true n = decide (n < 8) := by simp [wB]
        rw [e1, e2]
        exact rwant_loop c w P M n s0 hf.st.2 q0 q1 q2 q3 ⟨hM⟩ P1 M1 hL.1 ⟨hL.2.1⟩ ⟨hL.2.2⟩
      · rw [show canB c = false from decide_eq_false fun h' => h2 h'.2.2]
        exact rwant_trap c P w s0 hf.st.2 q0 q1 q2 (by simp; omega)
    · rw [show canB c = false from decide_eq_false fun h' => h1 h'.2.1]
      exact rwant_off c P w s0 q0 q1 (by simp; omega)
  · rw [show canB c = false from decide_eq_false fun h' => h h'.1]
    exact rwant_halt c P w (by simp [h]) (by simp [h])
end
end Go.Proofs.Ythoafohndinbeaa.VcpuWants
