/- Whatever is raised, acknowledged, masked and cloned: the steps, in every case. -/
import Derived.Test.YtoedliifhbpdnaaPicAlike
import Derived.Test.YtoedliifhbpdnaaAidRows
namespace Go.Proofs.Ytoedliifhbpdnaa.PlaysAny
open Go.RowKit Go.Proofs.Ytoedliifhbpdnaa.PPicPlays Go.Proofs.YtoedliifhbpdnaaW.PrintWords Go.Proofs.YtoedliifhbpdnaaW.PrintLast Go.Proofs.YtoedliifhbpdnaaW.PrintMore Go.Proofs.Ytoedliifhbpdnaa.Aid Go.Proofs.Ytoedliifhbpdnaa.AidRows Go.Proofs.Ytoedliifhbpdnaa.PicRef Go.Proofs.Ytoedliifhbpdnaa.PicRef2 Go.Proofs.Ytoedliifhbpdnaa.PicAlike
set_option linter.unusedVariables false
set_option linter.unusedSimpArgs false
def raiseE (L : Nat) (n : Int) : Int := if 0 ≤ n ∧ n < L then 0 else 2
def raiseR (L R : Nat) (n : Int) : Nat := if 0 ≤ n ∧ n < L then R ||| 2 ^ n.toNat else R
def ackE (L R : Nat) (n : Int) : Int := if 0 ≤ n ∧ n < L then (if R.testBit n.toNat then 0 else 8) else 2
def ackR (L R : Nat) (n : Int) : Nat := if 0 ≤ n ∧ n < L then (if R.testBit n.toNat then dn R (2 ^ n.toNat) else R) else R
theorem raise_lt {L R : Nat} {x : Int} (h : R < 2 ^ L) : raiseR L R x < 2 ^ L := by
  unfold raiseR
  split
  · exact Nat.or_lt_two_pow h (Nat.pow_lt_pow_right (a := 2) (by decide) (by omega))
  · exact h
theorem ack_lt {L R : Nat} {x : Int} (h : R < 2 ^ L) : ackR L R x < 2 ^ L := by
  unfold ackR
  have := dn_le R (2 ^ x.toNat)
  split
  · split
    · omega
    · exact h
  · exact h
theorem pow32 {L : Nat} (h : L ≤ 32) : 2 ^ L ≤ 4294967296 := Nat.pow_le_pow_right (n := 2) (by decide) h
theorem pw {n : Nat} (h : n < 32) : (2 : Int) ^ n % 4294967296 = ((2 ^ n : Nat) : Int) := by
  have hpi : 2 ^ n < 4294967296 := Nat.pow_lt_pow_right (a := 2) (by decide) h
  rw [← pow_cast]
  exact Int.emod_eq_of_lt (Int.natCast_nonneg _) (Int.ofNat_lt.2 hpi)
theorem has_no {L R M : Nat} {n : Int} (h : ¬ (0 ≤ n ∧ n < L)) : pic_Pic_has.f (L : Int) (R : Int) (M : Int) n = some (false, (L : Int), (R : Int), (M : Int)) := by
  unfold pic_Pic_has.f
  by_cases c : 0 ≤ n
  · rw [if_pos (by omega), decide_eq_false (by omega)]
  · rw [if_neg (by omega)]
theorem out_rng {n : Int} {L : Nat} (h : ¬ (0 ≤ n ∧ n < L)) : (decide (0 ≤ n) && decide (n < (L : Int))) = false := by
  by_cases c : 0 ≤ n
  · have : ¬ n < L := by omega
    simp [this]
  · simp [c]
theorem raise_any (gp L R M : Nat) (n : Int) (w0 w : World) (hI : IsS48 w0 w gp L R M) (hB : Below w0.heap.size w0 w) (hL : L ≤ 32) (hR : R < 2 ^ L) :
    Calls Try.prog 10 #[.pointer (some ⟨gp, 0, none⟩), .int .i64 n] w fun e w' => e = .returned (.int .i64 (raiseE L n)) ∧ IsS48 w0 w' gp L (raiseR L R n : Nat) M ∧ Below w0.heap.size w0 w' ∧ KeepBut w w' gp none := by
  have hp := pow32 hL
  by_cases c : 0 ≤ n ∧ n < L
  · obtain ⟨k, rfl⟩ := Int.eq_ofNat_of_zero_le c.1
    refine (raise_ok gp L R M k w0 w hI hB c.2 (by omega)).mono ?_
    rintro e w' ⟨rfl, h1, h2, h3⟩
    have hk : k < 32 := by omega
    have hpk : 2 ^ k < 4294967296 := Nat.pow_lt_pow_right (a := 2) (by decide) hk
    rw [pw hk, u32_or_nat _ _ (by omega) hpk] at h1
    unfold raiseE raiseR
    rw [if_pos c, if_pos c, Int.toNat_natCast]
    exact ⟨rfl, h1, h2, h3⟩
  · refine (raise_no gp L R M n w0 w hI hB (has_no c)).mono ?_
    rintro e w' ⟨rfl, h1, h2, h3⟩
    unfold raiseE raiseR
    rw [if_neg c, if_neg c]
    exact ⟨rfl, h1, h2, h3⟩
theorem tb {D : Nat} (hD : D < 4294967296) (i : Nat) : (Go.bits .and .u32 ((D : Int) / 2 ^ i) 1 == 0) = !D.testBit i := by
  rw [bit1 hD]
  cases D.testBit i <;> rfl
theorem ack_any (gp L R M : Nat) (n : Int) (w0 w : World) (hI : IsS48 w0 w gp L R M) (hB : Below w0.heap.size w0 w) (hL : L ≤ 32) (hR : R < 2 ^ L) :
    Calls Try.prog 13 #[.pointer (some ⟨gp, 0, none⟩), .int .i64 n] w fun e w' => e = .returned (.int .i64 (ackE L R n)) ∧ IsS48 w0 w' gp L (ackR L R n : Nat) M ∧ Below w0.heap.size w0 w' ∧ KeepBut w w' gp none := by
  have hp := pow32 hL
  by_cases c : 0 ≤ n ∧ n < L
  · obtain ⟨k, rfl⟩ := Int.eq_ofNat_of_zero_le c.1
    have hk : k < 32 := by omega
    have hpk : 2 ^ k < 4294967296 := Nat.pow_lt_pow_right (a := 2) (by decide) hk
    have ht := tb (D := R) (by omega) k
    unfold ackE ackR
    rw [if_pos c, if_pos c, Int.toNat_natCast]
    cases hb : R.testBit k with
    | true =>
      rw [hb] at ht
      refine (ack_ok gp L R M k w0 w hI hB c.2 (by omega) ht).mono ?_
      rintro e w' ⟨rfl, h1, h2, h3⟩
      rw [pw hk, dn_eq (by omega) hpk] at h1
      exact ⟨rfl, h1, h2, h3⟩
    | false =>
      rw [hb] at ht
      exact (ack_not gp L R M k w0 w hI hB c.2 (by omega) ht).mono fun e w' h => h
  · refine (ack_no gp L R M n w0 w hI hB (has_no c)).mono ?_
    rintro e w' ⟨rfl, h1, h2, h3⟩
    unfold ackE ackR
    rw [if_neg c, if_neg c]
    exact ⟨rfl, h1, h2, h3⟩
theorem rraise_any (g o f L R M : Nat) (n : Int) (w0 w : World) (hI : IsM w0 w g o f L R.testBit M.testBit) (hB : Below w0.heap.size w0 w) (hL : L ≤ 32) :
    Calls Try.prog 16 #[.pointer (some ⟨g, 0, none⟩), .int .i64 n] w fun e w' => e = .returned (.int .i64 (raiseE L n)) ∧ IsM w0 w' g o f L (raiseR L R n).testBit M.testBit ∧ Below w0.heap.size w0 w' ∧ KeepBut w w' o none := by
  by_cases c : 0 ≤ n ∧ n < L
  · obtain ⟨k, rfl⟩ := Int.eq_ofNat_of_zero_le c.1
    refine (rraise_ok g o f L k _ _ w0 w hI (by omega) hL).mono ?_
    rintro e w' ⟨rfl, rfl⟩
    unfold raiseE raiseR
    rw [if_pos c, if_pos c, Int.toNat_natCast]
    refine ⟨rfl, (hI.setOn k true).congr (fun i _ => ?_) (fun _ _ => rfl), below_set hB hI.2.2.2.2.1, (KeepBut.refl w o none).set_ k _⟩
    rw [Nat.testBit_or, Nat.testBit_two_pow]
    by_cases h : i = k
    · subst h
      simp
    · have h' : ¬ k = i := fun e => h e.symm
      simp [h, h']
  · refine (rraise_no g o f L _ _ n w0 w hI (out_rng c)).mono ?_
    rintro e w' ⟨rfl, rfl⟩
    unfold raiseE raiseR
    rw [if_neg c, if_neg c]
    exact ⟨rfl, hI, hB, KeepBut.refl _ _ _⟩
theorem rack_any (g o f L R M : Nat) (n : Int) (w0 w : World) (hI : IsM w0 w g o f L R.testBit M.testBit) (hB : Below w0.heap.size w0 w) (hL : L ≤ 32) (hR : R < 4294967296) :
    Calls Try.prog 17 #[.pointer (some ⟨g, 0, none⟩), .int .i64 n] w fun e w' => e = .returned (.int .i64 (ackE L R n)) ∧ IsM w0 w' g o f L (ackR L R n).testBit M.testBit ∧ Below w0.heap.size w0 w' ∧ KeepBut w w' o none := by
  by_cases c : 0 ≤ n ∧ n < L
  · obtain ⟨k, rfl⟩ := Int.eq_ofNat_of_zero_le c.1
    unfold ackE ackR
    rw [if_pos c, if_pos c, Int.toNat_natCast]
    cases hb : R.testBit k with
    | true =>
      refine (rack_ok g o f L k _ _ w0 w hI (by omega) hL hb).mono ?_
      rintro e w' ⟨rfl, rfl⟩
      refine ⟨rfl, (hI.setOn k false).congr (fun i _ => ?_) (fun _ _ => rfl), below_set hB hI.2.2.2.2.1, (KeepBut.refl w o none).set_ k _⟩
      have hpk : 2 ^ k < 4294967296 := Nat.pow_lt_pow_right (a := 2) (by decide) (show k < 32 by omega)
      show _ = (dn R (2 ^ k)).testBit i
      rw [dn_bit hR hpk, Nat.testBit_two_pow]
      by_cases h : i = k
      · subst h
        simp
      · have h' : ¬ k = i := fun e => h e.symm
        simp [h, h']
    | false =>
      refine (rack_not g o f L k _ _ w0 w hI (by omega) hL hb).mono ?_
      rintro e w' ⟨rfl, rfl⟩
      exact ⟨rfl, hI, hB, KeepBut.refl _ _ _⟩
  · refine (rack_no g o f L _ _ n w0 w hI (out_rng c)).mono ?_
    rintro e w' ⟨rfl, rfl⟩
    unfold ackE ackR
    rw [if_neg c, if_neg c]
    exact ⟨rfl, hI, hB, KeepBut.refl _ _ _⟩
end Go.Proofs.Ytoedliifhbpdnaa.PlaysAny
