/- An interrupt is the least line that is pending and let through: the walk of the law. -/
import Derived.Test.YthoafohndinbeaaVcpuWorks
import Derived.Test.YthoafohndinbeaaVcpuWants
namespace Go.Proofs.Ythoafohndinbeaa.LawIrqs
open Go.RowKit Go.Proofs.Ythoafohndinbeaa.PVcpuBack Go.Proofs.YthoafohndinbeaaW.PrintWords Go.Proofs.YthoafohndinbeaaW.PrintLast Go.Proofs.YthoafohndinbeaaW.PrintMore Go.Proofs.Ythoafohndinbeaa.Aid Go.Proofs.Ythoafohndinbeaa.VcpuBase Go.Proofs.Ythoafohndinbeaa.VcpuCheck Go.Proofs.Ythoafohndinbeaa.VcpuSet Go.Proofs.Ythoafohndinbeaa.VcpuEnter Go.Proofs.Ythoafohndinbeaa.VcpuWants Go.Proofs.Ythoafohndinbeaa.VcpuWorks
set_option maxHeartbeats 1600000
set_option maxRecDepth 100000
set_option linter.unusedVariables false
/-- Of the lines from k on L is the least of D (-1: there is none). -/
def From (D : Nat) (k L : Int) : Prop := (L = -1 ∧ ∀ j : Nat, k ≤ j → j < 8 → D.testBit j = false) ∨ ∃ l : Nat, L = l ∧ k ≤ l ∧ l < 8 ∧ D.testBit l = true ∧ ∀ j : Nat, k ≤ j → j < l → D.testBit j = false
def Rel (D : Nat) (vl vi : Value) : Prop := ∃ L : Int, vl = .int .i64 L ∧ ((∃ k : Nat, k < 8 ∧ vi = .int .i64 k ∧ From D (k + 1) L) ∨ (vi = .int .i64 (-1) ∧ From D 0 L))
theorem from_end {D n : Nat} {L : Int} (hL : Least D n) (h : From D 0 L) : L = if n < 8 then (n : Int) else -1 := by
  obtain ⟨h1, h2, h3⟩ := hL
  rcases h with ⟨rfl, hz⟩ | ⟨l, rfl, _, hl, hb, hz⟩
  · by_cases hn : n < 8
    · have := hz n (by omega) hn
      rw [h3 hn] at this
      cases this
    · rw [if_neg hn]
  · have a1 : ¬ l < n := fun h => by
      rw [h2 l h] at hb
      cases hb
    have a2 : ¬ n < l := fun h => by
      have h4 := hz n (by omega) h
      rw [h3 (by omega)] at h4
      cases h4
    have : n = l := by omega
    rw [if_pos (by omega), this]
theorem from_hit {D k : Nat} {L : Int} (h : From D (k + 1) L) (hk : k < 8) (hb : D.testBit k = true) : From D k k := .inr ⟨k, rfl, by omega, hk, hb, fun j h1 h2 => absurd h1 (by omega)⟩
theorem from_miss {D k : Nat} {L : Int} (h : From D (k + 1) L) (hb : D.testBit k = false) : From D k L := by
  rcases h with ⟨rfl, hz⟩ | ⟨l, rfl, h1, hl, hb2, hz⟩
  · refine .inl ⟨rfl, fun j h1 h2 => ?_⟩
    by_cases hj : j = k
    · rw [hj, hb]
    · exact hz j (by omega) h2
  · refine .inr ⟨l, rfl, by omega, hl, hb2, fun j h3 h4 => ?_⟩
    by_cases hj : j = k
    · rw [hj, hb]
    · exact hz j (by omega) h4
theorem rel_next {D k : Nat} {L : Int} (hk : k < 8) (h : From D k L) : Rel D (.int .i64 L) (.int .i64 ((k : Int) - 1)) := by
  refine ⟨L, rfl, ?_⟩
  by_cases h0 : k = 0
  · subst h0
    exact .inr ⟨rfl, h⟩
  · refine .inl ⟨k - 1, by omega, by rw [show ((k : Int) - 1) = ((k - 1 : Nat) : Int) by omega], ?_⟩
    rwa [show (((k - 1 : Nat) : Int) + 1) = (k : Int) by omega]
theorem bit1z {x : Int} (h0 : 0 ≤ x) (h1 : x < 4294967296) : (Go.bits .and .u32 x 1 == 0) = !(x % 2 == 1) := by
  obtain ⟨m, rfl⟩ := Int.eq_ofNat_of_zero_le h0
  have h := u32_and_nat m 1 (by omega) (by omega)
  rw [show ((1 : Nat) : Int) = 1 from rfl] at h
  have e : m &&& 1 = m % 2 := Nat.and_one_is_mod m
  rw [h, e]
  by_cases hm : m % 2 = 1
  · have : ((m : Int) % 2) = 1 := by omega
    rw [hm, this]
    rfl
  · have h2 : m % 2 = 0 := by omega
    have : ((m : Int) % 2) = 0 := by omega
    rw [h2, this]
    rfl
section
variable (c : Cx) (P M n : Nat) (w : World)

theorem irq_halt (HF : Aside0 (Wf c)) (HM : Aside0 (c.ma = (M : Int))) (P1 : P < 4294967296) (M1 : M < 4294967296) (HL : Aside0 (Least (P &&& M) n)) (t0 : (c.ha == 0) = false) (t0n : (c.ha != 0) = true) :
    Calls Try.prog 8 #[.agg (vc c), .int .u32 P] w fun e w' => e = .returned (.bool true) ∧ Below w.heap.size w w' := by
  have HC : Aside0 (canB c = false) := ⟨?can⟩
  case can => exact decide_eq_false fun h => by simp [h.1] at t0
  go_enter Try.func8, Try.ntmps8
  go_wp2_with fail
  refine (works_calls _).mono ?_
  rintro e w1 ⟨rfl, hB⟩
  have B1 := Aside0.mk ((hB.block w.heap.size (by simp)).trans (heap_alloc_new w _))
  have H1 := Aside0.mk ((below_alloc (Below.refl w.heap.size w) _).trans (hB.mono (by simp)))
  clear hB
  go_wp2_with (refine ld rfl _ rfl w.heap.size rfl c (by with_reducible exact B1.out) ?_)
  refine (want_calls c _ P M n HF.out HM.out P1 M1 HL.out).mono ?_
  rintro e w2 ⟨rfl, hB⟩
  rw [HC.out]
  have B2 := Aside0.mk (blk_below B1.out hB)
  have H2 := Aside0.mk (below_step H1.out hB)
  have a25 := (blk_cell B2.out 25).trans (get25 c)
  have a33 := (blk_cell B2.out 33).trans (get33 c)
  have a32 := (blk_cell B2.out 32).trans (get32 c)
  rw [HM.out] at a32
  clear hB B1 H1
  go_wp2_with fail
  go_loop [8, 9] (fun l i => Aside0 (Rel (P &&& M) l i)) (fun _ i => (intOf i + 1).toNat)
  case atStart => exact ⟨⟨-1, rfl, .inl ⟨7, by omega, rfl, .inl ⟨rfl, fun j h1 h2 => absurd h1 (by omega)⟩⟩⟩⟩
  case round =>
    obtain ⟨L, rfl, hr⟩ := hrel.out
    clear hrel
    rcases hr with ⟨k, hk, rfl, hfr⟩ | ⟨rfl, hfr⟩
    · have HFR := Aside0.mk hfr
      clear hfr
      have p0 := shr_pos P k
      have m0 := shr_pos M k
      have tp := shr_bit (D := P) k
      have tm := shr_bit (D := M) k
      have hand := Nat.testBit_and P M k
      cases hp : P.testBit k with
      | false =>
        rw [hp] at tp
        rw [hp, Bool.false_and] at hand
        have HN := Aside0.mk (rel_next hk (from_miss HFR.out hand))
        clear hand tm hp
        go_wp2_with fail
        go_round
        case rel => exact HN
        case measure =>
          simp [intOf]
      | true =>
        rw [hp] at tp
        rw [hp, Bool.true_and] at hand
        cases hm : M.testBit k with
        | false =>
          rw [hm] at tm
          rw [hm] at hand
          have HN := Aside0.mk (rel_next hk (from_miss HFR.out hand))
          clear hand hp hm
          go_wp2_with fail
          go_round
          case rel => exact HN
          case measure =>
            simp [intOf]
        | true =>
          rw [hm] at tm
          rw [hm] at hand
          have HN := Aside0.mk (rel_next hk (from_hit HFR.out hk hand))
          clear hand hp hm
          go_wp2_with fail
          go_round
          case rel => exact HN
          case measure =>
            simp [intOf]
    · have hL := from_end HL.out hfr
      clear hfr

      have e1 : wV false n = 0 := by simp [wV]
      have e2 : wB false n = false := by simp [wB]
      rw [e1, e2]
      clear hL
      go_wp2_with fail
      go_ret
      exact ⟨rfl, H2.out⟩

theorem irq_off (HF : Aside0 (Wf c)) (HM : Aside0 (c.ma = (M : Int))) (P1 : P < 4294967296) (M1 : M < 4294967296) (HL : Aside0 (Least (P &&& M) n)) (t0 : (c.ha == 0) = true) (t0n : (c.ha != 0) = false) (t1 : (Go.bits .and .u32 c.st 1 == 0) = true) (t1n : (Go.bits .and .u32 c.st 1 != 0) = false) :
    Calls Try.prog 8 #[.agg (vc c), .int .u32 P] w fun e w' => e = .returned (.bool true) ∧ Below w.heap.size w w' := by
  have HC : Aside0 (canB c = false) := ⟨?can⟩
  case can => 
    have b1 := bit1z HF.out.st.1 HF.out.st.2
    rw [t1] at b1
    refine decide_eq_false fun h => ?_
    rw [h.2.1] at b1
    cases b1
  go_enter Try.func8, Try.ntmps8
  go_wp2_with fail
  refine (works_calls _).mono ?_
  rintro e w1 ⟨rfl, hB⟩
  have B1 := Aside0.mk ((hB.block w.heap.size (by simp)).trans (heap_alloc_new w _))
  have H1 := Aside0.mk ((below_alloc (Below.refl w.heap.size w) _).trans (hB.mono (by simp)))
  clear hB
  go_wp2_with (refine ld rfl _ rfl w.heap.size rfl c (by with_reducible exact B1.out) ?_)
  refine (want_calls c _ P M n HF.out HM.out P1 M1 HL.out).mono ?_
  rintro e w2 ⟨rfl, hB⟩
  rw [HC.out]
  have B2 := Aside0.mk (blk_below B1.out hB)
  have H2 := Aside0.mk (below_step H1.out hB)
  have a25 := (blk_cell B2.out 25).trans (get25 c)
  have a33 := (blk_cell B2.out 33).trans (get33 c)
  have a32 := (blk_cell B2.out 32).trans (get32 c)
  rw [HM.out] at a32
  clear hB B1 H1
  go_wp2_with fail
  go_loop [8, 9] (fun l i => Aside0 (Rel (P &&& M) l i)) (fun _ i => (intOf i + 1).toNat)
  case atStart => exact ⟨⟨-1, rfl, .inl ⟨7, by omega, rfl, .inl ⟨rfl, fun j h1 h2 => absurd h1 (by omega)⟩⟩⟩⟩
  case round =>
    obtain ⟨L, rfl, hr⟩ := hrel.out
    clear hrel
    rcases hr with ⟨k, hk, rfl, hfr⟩ | ⟨rfl, hfr⟩
    · have HFR := Aside0.mk hfr
      clear hfr
      have p0 := shr_pos P k
      have m0 := shr_pos M k
      have tp := shr_bit (D := P) k
      have tm := shr_bit (D := M) k
      have hand := Nat.testBit_and P M k
      cases hp : P.testBit k with
      | false =>
        rw [hp] at tp
        rw [hp, Bool.false_and] at hand
        have HN := Aside0.mk (rel_next hk (from_miss HFR.out hand))
        clear hand tm hp
        go_wp2_with fail
        go_round
        case rel => exact HN
        case measure =>
          simp [intOf]
      | true =>
        rw [hp] at tp
        rw [hp, Bool.true_and] at hand
        cases hm : M.testBit k with
        | false =>
          rw [hm] at tm
          rw [hm] at hand
          have HN := Aside0.mk (rel_next hk (from_miss HFR.out hand))
          clear hand hp hm
          go_wp2_with fail
          go_round
          case rel => exact HN
          case measure =>
            simp [intOf]
        | true =>
          rw [hm] at tm
          rw [hm] at hand
          have HN := Aside0.mk (rel_next hk (from_hit HFR.out hk hand))
          clear hand hp hm
          go_wp2_with fail
          go_round
          case rel => exact HN
          case measure =>
            simp [intOf]
    · have hL := from_end HL.out hfr
      clear hfr

      have e1 : wV false n = 0 := by simp [wV]
      have e2 : wB false n = false := by simp [wB]
      rw [e1, e2]
      clear hL
      go_wp2_with fail
      go_ret
      exact ⟨rfl, H2.out⟩

theorem irq_trap (HF : Aside0 (Wf c)) (HM : Aside0 (c.ma = (M : Int))) (P1 : P < 4294967296) (M1 : M < 4294967296) (HL : Aside0 (Least (P &&& M) n)) (t0 : (c.ha == 0) = true) (t0n : (c.ha != 0) = false) (t1 : (Go.bits .and .u32 c.st 1 == 0) = false) (t1n : (Go.bits .and .u32 c.st 1 != 0) = true) (t2 : (Go.bits .and .u32 c.st 4 == 0) = false) (t2n : (Go.bits .and .u32 c.st 4 != 0) = true) :
    Calls Try.prog 8 #[.agg (vc c), .int .u32 P] w fun e w' => e = .returned (.bool true) ∧ Below w.heap.size w w' := by
  have HC : Aside0 (canB c = false) := ⟨?can⟩
  case can => 
    have b4 := bit4 HF.out.st.1 HF.out.st.2
    rw [t2] at b4
    refine decide_eq_false fun h => ?_
    rw [h.2.2] at b4
    cases b4
  go_enter Try.func8, Try.ntmps8
  go_wp2_with fail
  refine (works_calls _).mono ?_
  rintro e w1 ⟨rfl, hB⟩
  have B1 := Aside0.mk ((hB.block w.heap.size (by simp)).trans (heap_alloc_new w _))
  have H1 := Aside0.mk ((below_alloc (Below.refl w.heap.size w) _).trans (hB.mono (by simp)))
  clear hB
  go_wp2_with (refine ld rfl _ rfl w.heap.size rfl c (by with_reducible exact B1.out) ?_)
  refine (want_calls c _ P M n HF.out HM.out P1 M1 HL.out).mono ?_
  rintro e w2 ⟨rfl, hB⟩
  rw [HC.out]
  have B2 := Aside0.mk (blk_below B1.out hB)
  have H2 := Aside0.mk (below_step H1.out hB)
  have a25 := (blk_cell B2.out 25).trans (get25 c)
  have a33 := (blk_cell B2.out 33).trans (get33 c)
  have a32 := (blk_cell B2.out 32).trans (get32 c)
  rw [HM.out] at a32
  clear hB B1 H1
  go_wp2_with fail
  go_loop [8, 9] (fun l i => Aside0 (Rel (P &&& M) l i)) (fun _ i => (intOf i + 1).toNat)
  case atStart => exact ⟨⟨-1, rfl, .inl ⟨7, by omega, rfl, .inl ⟨rfl, fun j h1 h2 => absurd h1 (by omega)⟩⟩⟩⟩
  case round =>
    obtain ⟨L, rfl, hr⟩ := hrel.out
    clear hrel
    rcases hr with ⟨k, hk, rfl, hfr⟩ | ⟨rfl, hfr⟩
    · have HFR := Aside0.mk hfr
      clear hfr
      have p0 := shr_pos P k
      have m0 := shr_pos M k
      have tp := shr_bit (D := P) k
      have tm := shr_bit (D := M) k
      have hand := Nat.testBit_and P M k
      cases hp : P.testBit k with
      | false =>
        rw [hp] at tp
        rw [hp, Bool.false_and] at hand
        have HN := Aside0.mk (rel_next hk (from_miss HFR.out hand))
        clear hand tm hp
        go_wp2_with fail
        go_round
        case rel => exact HN
        case measure =>
          simp [intOf]
      | true =>
        rw [hp] at tp
        rw [hp, Bool.true_and] at hand
        cases hm : M.testBit k with
        | false =>
          rw [hm] at tm
          rw [hm] at hand
          have HN := Aside0.mk (rel_next hk (from_miss HFR.out hand))
          clear hand hp hm
          go_wp2_with fail
          go_round
          case rel => exact HN
          case measure =>
            simp [intOf]
        | true =>
          rw [hm] at tm
          rw [hm] at hand
          have HN := Aside0.mk (rel_next hk (from_hit HFR.out hk hand))
          clear hand hp hm
          go_wp2_with fail
          go_round
          case rel => exact HN
          case measure =>
            simp [intOf]
    · have hL := from_end HL.out hfr
      clear hfr

      have e1 : wV false n = 0 := by simp [wV]
      have e2 : wB false n = false := by simp [wB]
      rw [e1, e2]
      clear hL
      go_wp2_with fail
      go_ret
      exact ⟨rfl, H2.out⟩

theorem irq_can (HF : Aside0 (Wf c)) (HM : Aside0 (c.ma = (M : Int))) (P1 : P < 4294967296) (M1 : M < 4294967296) (HL : Aside0 (Least (P &&& M) n)) (t0 : (c.ha == 0) = true) (t0n : (c.ha != 0) = false) (t1 : (Go.bits .and .u32 c.st 1 == 0) = false) (t1n : (Go.bits .and .u32 c.st 1 != 0) = true) (t2 : (Go.bits .and .u32 c.st 4 == 0) = true) (t2n : (Go.bits .and .u32 c.st 4 != 0) = false) :
    Calls Try.prog 8 #[.agg (vc c), .int .u32 P] w fun e w' => e = .returned (.bool true) ∧ Below w.heap.size w w' := by
  have HC : Aside0 (canB c = true) := ⟨?can⟩
  case can => 
    have b1 := bit1z HF.out.st.1 HF.out.st.2
    have b4 := bit4 HF.out.st.1 HF.out.st.2
    rw [t1] at b1
    rw [t2] at b4
    refine decide_eq_true ⟨by simpa using t0, ?_, ?_⟩
    · simpa using b1.symm
    · have h4 : ¬ c.st / 4 % 2 = 1 := by simpa using b4.symm
      omega
  go_enter Try.func8, Try.ntmps8
  go_wp2_with fail
  refine (works_calls _).mono ?_
  rintro e w1 ⟨rfl, hB⟩
  have B1 := Aside0.mk ((hB.block w.heap.size (by simp)).trans (heap_alloc_new w _))
  have H1 := Aside0.mk ((below_alloc (Below.refl w.heap.size w) _).trans (hB.mono (by simp)))
  clear hB
  go_wp2_with (refine ld rfl _ rfl w.heap.size rfl c (by with_reducible exact B1.out) ?_)
  refine (want_calls c _ P M n HF.out HM.out P1 M1 HL.out).mono ?_
  rintro e w2 ⟨rfl, hB⟩
  rw [HC.out]
  have B2 := Aside0.mk (blk_below B1.out hB)
  have H2 := Aside0.mk (below_step H1.out hB)
  have a25 := (blk_cell B2.out 25).trans (get25 c)
  have a33 := (blk_cell B2.out 33).trans (get33 c)
  have a32 := (blk_cell B2.out 32).trans (get32 c)
  rw [HM.out] at a32
  clear hB B1 H1
  go_wp2_with fail
  go_loop [8, 9] (fun l i => Aside0 (Rel (P &&& M) l i)) (fun _ i => (intOf i + 1).toNat)
  case atStart => exact ⟨⟨-1, rfl, .inl ⟨7, by omega, rfl, .inl ⟨rfl, fun j h1 h2 => absurd h1 (by omega)⟩⟩⟩⟩
  case round =>
    obtain ⟨L, rfl, hr⟩ := hrel.out
    clear hrel
    rcases hr with ⟨k, hk, rfl, hfr⟩ | ⟨rfl, hfr⟩
    · have HFR := Aside0.mk hfr
      clear hfr
      have p0 := shr_pos P k
      have m0 := shr_pos M k
      have tp := shr_bit (D := P) k
      have tm := shr_bit (D := M) k
      have hand := Nat.testBit_and P M k
      cases hp : P.testBit k with
      | false =>
        rw [hp] at tp
        rw [hp, Bool.false_and] at hand
        have HN := Aside0.mk (rel_next hk (from_miss HFR.out hand))
        clear hand tm hp
        go_wp2_with fail
        go_round
        case rel => exact HN
        case measure =>
          simp [intOf]
      | true =>
        rw [hp] at tp
        rw [hp, Bool.true_and] at hand
        cases hm : M.testBit k with
        | false =>
          rw [hm] at tm
          rw [hm] at hand
          have HN := Aside0.mk (rel_next hk (from_miss HFR.out hand))
          clear hand hp hm
          go_wp2_with fail
          go_round
          case rel => exact HN
          case measure =>
            simp [intOf]
        | true =>
          rw [hm] at tm
          rw [hm] at hand
          have HN := Aside0.mk (rel_next hk (from_hit HFR.out hk hand))
          clear hand hp hm
          go_wp2_with fail
          go_round
          case rel => exact HN
          case measure =>
            simp [intOf]
    · have hL := from_end HL.out hfr
      clear hfr

      by_cases hn : n < 8
      · rw [if_pos hn] at hL
        have e1 : wV true n = (n : Int) := by simp [wV, hn]
        have e2 : wB true n = true := by simp [wB, hn]
        rw [e1, e2, hL]
        clear hL
        go_wp2_with fail
        go_ret
        exact ⟨rfl, H2.out⟩
      · rw [if_neg hn] at hL
        have e1 : wV true n = 0 := by simp [wV, hn]
        have e2 : wB true n = false := by simp [wB, hn]
        rw [e1, e2, hL]
        clear hL
        go_wp2_with fail
        go_ret
        exact ⟨rfl, H2.out⟩

theorem law (hf : Wf c) (hM : c.ma = (M : Int)) (P1 : P < 4294967296) (M1 : M < 4294967296) (hL : Least (P &&& M) n) :
    Calls Try.prog 8 #[.agg (vc c), .int .u32 P] w fun e w' => e = .returned (.bool true) ∧ Below w.heap.size w w' := by
  have b1 := bit1z hf.st.1 hf.st.2
  have b4 := bit4 hf.st.1 hf.st.2
  have ne : ∀ {a : Int} {b : Bool}, (a == 0) = b → (a != 0) = !b := fun h => by rw [bne, h]
  by_cases h0 : c.ha = 0
  · have t0 : (c.ha == 0) = true := by simp [h0]
    by_cases h1 : c.st % 2 = 1
    · have t1 : (Go.bits .and .u32 c.st 1 == 0) = false := by
        rw [b1, h1]
        rfl
      by_cases h2 : c.st / 4 % 2 = 1
      · have t2 : (Go.bits .and .u32 c.st 4 == 0) = false := by
          rw [b4, h2]
          rfl
        exact irq_trap c P M n w ⟨hf⟩ ⟨hM⟩ P1 M1 ⟨hL⟩ t0 ((ne t0).trans rfl) t1 ((ne t1).trans rfl) t2 ((ne t2).trans rfl)
      · have t2 : (Go.bits .and .u32 c.st 4 == 0) = true := by
          rw [b4, show (c.st / 4 % 2 == 1) = false from beq_eq_false_iff_ne.2 h2]
          rfl
        exact irq_can c P M n w ⟨hf⟩ ⟨hM⟩ P1 M1 ⟨hL⟩ t0 ((ne t0).trans rfl) t1 ((ne t1).trans rfl) t2 ((ne t2).trans rfl)
    · have t1 : (Go.bits .and .u32 c.st 1 == 0) = true := by
        rw [b1, show (c.st % 2 == 1) = false from beq_eq_false_iff_ne.2 h1]
        rfl
      exact irq_off c P M n w ⟨hf⟩ ⟨hM⟩ P1 M1 ⟨hL⟩ t0 ((ne t0).trans rfl) t1 ((ne t1).trans rfl)
  · have t0 : (c.ha == 0) = false := by simp [h0]
    exact irq_halt c P M n w ⟨hf⟩ ⟨hM⟩ P1 M1 ⟨hL⟩ t0 ((ne t0).trans rfl)
theorem walk (v0 : Value) (p : Int) (w : World) (h0 : ∃ c : Cx, v0 = .agg (vc c) ∧ Wf c) (h1 : (Lit.int .u32 p).wf = true) :
    Calls Try.prog 8 #[v0, .int .u32 p] w fun e w' => e = .returned (.bool true) ∧ Below w.heap.size w w' := by
  obtain ⟨c, rfl, hf⟩ := h0
  obtain ⟨a, b⟩ := u32_bd h1
  obtain ⟨P, rfl⟩ := Int.eq_ofNat_of_zero_le a
  obtain ⟨M, hM⟩ := Int.eq_ofNat_of_zero_le hf.ma.1
  have M1 := hf.ma.2
  obtain ⟨m, g1, g2, g3⟩ := least (P &&& M) 8
  exact law c P M m w hf hM (by omega) (by omega) ⟨g1, g2, g3⟩
end
end Go.Proofs.Ythoafohndinbeaa.LawIrqs
