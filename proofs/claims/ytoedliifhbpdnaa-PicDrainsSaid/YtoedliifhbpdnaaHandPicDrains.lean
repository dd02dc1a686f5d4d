/- No interrupt is lost: the walk of the law. -/
import Derived.Test.YtoedliifhbpdnaaPPicMasksx1
import Derived.Test.YtoedliifhbpdnaaAid
import Derived.RegionTactic
import Derived.ChangeAlike
namespace Go.Proofs.Ytoedliifhbpdnaa.HandDrains
open Go.RowKit Go.Proofs.Ytoedliifhbpdnaa.PPicMasks Go.Proofs.YtoedliifhbpdnaaW.PrintWords Go.Proofs.YtoedliifhbpdnaaW.PrintLast Go.Proofs.YtoedliifhbpdnaaW.PrintMore Go.Proofs.Ytoedliifhbpdnaa.Aid

/-- The lines of R that are not in m. -/
def dn (R m : Nat) : Nat := R &&& (4294967295 - m)
theorem lt_of_bit {R i : Nat} (hR : R < 4294967296) (h : R.testBit i = true) : i < 32 := by
  refine Decidable.byContradiction fun hn => ?_
  have h2 : R < 2 ^ i := Nat.lt_of_lt_of_le hR (Nat.pow_le_pow_right (n := 2) (by decide) (show 32 ≤ i by omega))
  rw [Nat.testBit_lt_two_pow h2] at h
  cases h
theorem dn_bit {R m : Nat} (hR : R < 4294967296) (hm : m < 4294967296) (i : Nat) : (dn R m).testBit i = (R.testBit i && !m.testBit i) := by
  have h := Nat.testBit_two_pow_sub_succ (n := 32) hm i
  have e : 2 ^ 32 - (m + 1) = 4294967295 - m := by omega
  rw [e] at h
  unfold dn
  rw [Nat.testBit_and, h]
  cases hb : R.testBit i with
  | false => rfl
  | true =>
    have := lt_of_bit hR hb
    simp [this]
theorem dn_eq {R m : Nat} (hR : R < 4294967296) (hm : m < 4294967296) : Go.bits .andNot .u32 (R : Int) (m : Int) = ((dn R m : Nat) : Int) := u32_andNot_nat R m hR hm
theorem dn_le (R m : Nat) : dn R m ≤ R := Nat.and_le_left
theorem mod_bit (m L i : Nat) : (m % 2 ^ L).testBit i = (decide (i < L) && m.testBit i) := Nat.testBit_mod_two_pow m L i
theorem dn_mod {R m L : Nat} (hR : R < 2 ^ L) (hL : L ≤ 32) (hm : m < 4294967296) : dn R (m % 2 ^ L) = dn R m := by
  have hp : 2 ^ L ≤ 4294967296 := Nat.pow_le_pow_right (n := 2) (by decide) hL
  have h1 : m % 2 ^ L < 4294967296 := Nat.lt_of_le_of_lt (Nat.mod_le _ _) hm
  refine Nat.eq_of_testBit_eq fun i => ?_
  rw [dn_bit (by omega) h1, dn_bit (by omega) hm, mod_bit]
  by_cases hi : i < L
  · simp [hi]
  · have h2 : R < 2 ^ i := Nat.lt_of_lt_of_le hR (Nat.pow_le_pow_right (n := 2) (by decide) (by omega))
    rw [Nat.testBit_lt_two_pow h2]
    rfl
theorem bit1 {D : Nat} (hD : D < 4294967296) (i : Nat) : Go.bits .and .u32 ((D : Int) / 2 ^ i) 1 = (((D.testBit i).toNat : Nat) : Int) := by
  have h : (D : Int) / 2 ^ i = ((D / 2 ^ i : Nat) : Int) := by
    rw [← pow_cast]
    rfl
  have hle : D / 2 ^ i ≤ D := Nat.div_le_self _ _
  rw [h]
  have h2 := u32_and_nat (D / 2 ^ i) 1 (by omega) (by omega)
  rw [nat_mask1] at h2
  rw [Nat.toNat_testBit]
  exact h2
theorem or_bit {R i : Nat} (hi : i < 32) (hb : R.testBit i = true) :
    Go.bits .or .u32 ((R % 2 ^ i : Nat) : Int) (2 ^ i % 4294967296) = ((R % 2 ^ (i + 1) : Nat) : Int) := by
  have hpi : 2 ^ i < 4294967296 := Nat.pow_lt_pow_right (a := 2) (by decide) hi
  have h1 : R % 2 ^ i < 2 ^ i := Nat.mod_lt _ (Nat.pow_pos (by decide))
  have e1 : (2 : Int) ^ i % 4294967296 = ((2 ^ i : Nat) : Int) := by
    rw [← pow_cast]
    omega
  rw [e1, u32_or_nat _ _ (by omega) hpi, Nat.or_comm, nat_join i (2 ^ i) (R % 2 ^ i) (Nat.mod_self _) h1, Nat.mod_pow_succ]
  have h2 := Nat.toNat_testBit R i
  rw [hb] at h2
  have h3 : R / 2 ^ i % 2 = 1 := h2.symm
  rw [h3]
  congr 1
  omega
theorem no_bit {R i : Nat} (hb : R.testBit i = false) : R % 2 ^ i = R % 2 ^ (i + 1) := by
  have h2 := Nat.toNat_testBit R i
  rw [hb] at h2
  have h3 : R / 2 ^ i % 2 = 0 := h2.symm
  rw [Nat.mod_pow_succ, h3]
  omega
theorem low_zero {D n : Nat} (h : ∀ j, j < n → D.testBit j = false) : D % 2 ^ n = 0 := by
  refine Nat.eq_of_testBit_eq fun i => ?_
  rw [mod_bit, Nat.zero_testBit]
  by_cases hi : i < n
  · simp [hi, h i hi]
  · simp [hi]
theorem next_loop {L R M : Nat} (hL : L ≤ 32) (hR : R < 2 ^ L) (hM : M < 4294967296) (d : Nat) : ∀ (k i : Nat), i + d = L → (∀ j, j < i → (dn R M).testBit j = false) → d < k →
    (dn R M = 0 ∧ pic_Pic_Next.l0 k (L : Int) (i : Int) (L : Int) (R : Int) (M : Int) = some (0, false, (L : Int), (R : Int), (M : Int))) ∨
    (dn R M ≠ 0 ∧ ∃ n : Nat, n < L ∧ (dn R M).testBit n = true ∧ (∀ j, j < n → (dn R M).testBit j = false) ∧ pic_Pic_Next.l0 k (L : Int) (i : Int) (L : Int) (R : Int) (M : Int) = some ((n : Int), true, (L : Int), (R : Int), (M : Int))) := by
  have hp : 2 ^ L ≤ 4294967296 := Nat.pow_le_pow_right (n := 2) (by decide) hL
  have hD := dn_le R M
  induction d with
  | zero =>
    intro k i hi hz hk
    obtain ⟨k, rfl⟩ : ∃ j, k = j + 1 := ⟨k - 1, by omega⟩
    left
    simp only [pic_Pic_Next.l0]
    rw [if_neg (by omega)]
    refine ⟨?_, rfl⟩
    have h1 := low_zero hz
    rw [show i = L by omega, Nat.mod_eq_of_lt (by omega)] at h1
    exact h1
  | succ d ih =>
    intro k i hi hz hk
    obtain ⟨k, rfl⟩ : ∃ j, k = j + 1 := ⟨k - 1, by omega⟩
    simp only [pic_Pic_Next.l0]
    have e : shr .u32 (Go.bits .andNot .u32 (R : Int) (M : Int)) (i : Int) = ((dn R M : Nat) : Int) / 2 ^ i := by
      rw [dn_eq (by omega) hM]
      unfold shr
      have em : min (i : Int).toNat IntKind.u32.bits = i := by
        simp only [IntKind.bits]
        omega
      rw [em]
    rw [if_pos (by omega), if_pos (by omega), e, bit1 (by omega)]
    cases hb : (dn R M).testBit i with
    | true =>
      right
      refine ⟨fun h0 => ?_, i, by omega, hb, hz, ?_⟩
      · rw [h0, Nat.zero_testBit] at hb
        cases hb
      · rw [if_pos (by decide)]
    | false =>
      rw [if_neg (by decide), w64 (by omega) (by omega)]
      refine ih k (i + 1) (by omega) (fun j hj => ?_) (by omega)
      rcases Nat.lt_or_ge j i with h | h
      · exact hz j h
      · rw [show j = i by omega]
        exact hb
theorem next_f {L R M : Nat} (hL : L ≤ 32) (hR : R < 2 ^ L) (hM : M < 4294967296) :
    (dn R M = 0 ∧ pic_Pic_Next.f 40 (L : Int) (R : Int) (M : Int) = some (0, false, (L : Int), (R : Int), (M : Int))) ∨
    (dn R M ≠ 0 ∧ ∃ n : Nat, n < L ∧ (dn R M).testBit n = true ∧ (∀ j, j < n → (dn R M).testBit j = false) ∧ pic_Pic_Next.f 40 (L : Int) (R : Int) (M : Int) = some ((n : Int), true, (L : Int), (R : Int), (M : Int))) :=
  next_loop hL hR hM L 40 0 (by omega) (fun j hj => absurd hj (by omega)) (by omega)
theorem mask_f {L R M m : Nat} (hL : L ≤ 32) (hm : m < 4294967296) : pic_Pic_Mask.f (L : Int) (R : Int) (M : Int) (m : Int) = some ((L : Int), (R : Int), ((m % 2 ^ L : Nat) : Int)) := by
  unfold pic_Pic_Mask.f
  rw [if_pos (by omega)]
  have em : min (L : Int).toNat IntKind.u32.bits = L := by
    simp only [IntKind.bits]
    omega
  have hp : 2 ^ L ≤ 4294967296 := Nat.pow_le_pow_right (n := 2) (by decide) hL
  have hp0 : 0 < 2 ^ L := Nat.pow_pos (by decide)
  have e1 : (shl .u32 1 (L : Int) - 1) % 4294967296 = 2 ^ L - 1 := by
    unfold shl
    rw [em, u32w, Int.one_mul, ← pow_cast]
    omega
  rw [e1, and_mask (by omega) (by omega) L hL, ← pow_cast]
  rfl
theorem dn_zero {R : Nat} (hR : R < 4294967296) : dn R 0 = R := by
  refine Nat.eq_of_testBit_eq fun i => ?_
  rw [dn_bit hR (by decide)]
  simp
theorem keepS {w0 W W' : World} {g g' : Nat} {a b c : Int} (h : IsS48 w0 W g a b c) (hk : KeepBut W W' g' none) (hne : g ≠ g') : IsS48 w0 W' g a b c := ⟨hk.blk h.1 hne (by simp), h.2⟩
theorem belowS {w0 W W' : World} {g : Nat} {a b c : Int} (h : IsS48 w0 W g a b c) (hb : Below W.heap.size W W') : IsS48 w0 W' g a b c := ⟨(hb.block g (blk_lt h.1)).trans h.1, h.2⟩
theorem baseS {w0 w1 W : World} {g : Nat} {a b c : Int} (h : IsS48 w1 W g a b c) (hs : w0.heap.size ≤ w1.heap.size) : IsS48 w0 W g a b c := ⟨h.1, Nat.le_trans hs h.2⟩
theorem neS {w0 W1 W : World} {g g' : Nat} {a a' b b' c c' : Int} (h : IsS48 w0 W1 g a b c) (h' : IsS48 W1 W g' a' b' c') : g ≠ g' := by
  have h1 := blk_lt h.1
  have h2 := h'.2
  omega
set_option maxHeartbeats 800000 in
theorem new_ok (n : Int) (w : World) (h0 : 1 ≤ n) (h1 : n ≤ 32) :
    Calls Try.prog 7 #[.int .i64 n] w fun e w' => ∃ g : Nat, e = .returned (.tuple #[.pointer (some ⟨g, 0, none⟩), .int .i64 0]) ∧ IsS48 w w' g n 0 0 ∧ Below w.heap.size w w' := by
  go_enter Try.func7, Try.ntmps7
  go_wp2
  go_ret2
  exact ⟨_, rfl, ⟨heap_alloc_new w _, Nat.le_refl _⟩, (Below.refl _ _).alloc (Nat.le_refl _) _⟩
set_option maxHeartbeats 800000 in
theorem raise_ok (g : Nat) (lines p m : Int) (n : Nat) (w0 w : World) (hI : IsS48 w0 w g lines p m) (hB : Below w0.heap.size w0 w) (h1 : (n : Int) < lines) (h2 : lines ≤ 32) :
    Calls Try.prog 10 #[.pointer (some ⟨g, 0, none⟩), .int .i64 n] w fun e w' => e = .returned (.int .i64 0) ∧ IsS48 w0 w' g lines (Go.bits .or .u32 p (2 ^ n % 4294967296)) m ∧ Below w0.heap.size w0 w' ∧ KeepBut w w' g none := by
  have HI := Aside0.mk hI
  have HB := Aside0.mk hB
  clear hI hB
  go_enter Try.func10, Try.ntmps10
  go_wp2_with fail
  refine (pic_Pic_has.calls g lines p m n true lines p m w0 _ HI.out HB.out (by unfold pic_Pic_has.f; rw [if_pos (by omega), decide_eq_true h1])).mono ?_
  rintro e w1 ⟨rfl, hI, hB, hK⟩
  have HK := Aside0.mk hK
  have HI2 := Aside0.mk hI
  have HB2 := Aside0.mk hB
  obtain ⟨HG, hg⟩ := hI
  have hc1 := cellS48_1 HG
  have hf1 := blk_frozen HG 1
  clear HI HB hK hB HG hg
  go_wp2_with fail
  go_region
  go_wp2
  go_ret
  exact ⟨rfl, by repeat (first | exact HI2.out | apply IsS48.alloc | apply IsS48.drewN | apply IsS48.drew | apply IsS48.set_0 | apply IsS48.set_1 | apply IsS48.set_2), by repeat (first | exact HB2.out | apply below_alloc | apply pw_below_drewN | apply below_drew1 | refine below_set ?_ (IsS48.ge HI2.out)), by repeat (first | exact HK.out | apply KeepBut.set_ | apply keep_drewN | apply keep_drew | apply keep_alloc)⟩
set_option maxHeartbeats 800000 in
theorem ack_ok (g : Nat) (lines p m : Int) (n : Nat) (w0 w : World) (hI : IsS48 w0 w g lines p m) (hB : Below w0.heap.size w0 w) (h1 : (n : Int) < lines) (h2 : lines ≤ 32) (h3 : (Go.bits .and .u32 (p / 2 ^ n) 1 == 0) = false) :
    Calls Try.prog 13 #[.pointer (some ⟨g, 0, none⟩), .int .i64 n] w fun e w' => e = .returned (.int .i64 0) ∧ IsS48 w0 w' g lines (Go.bits .andNot .u32 p (2 ^ n % 4294967296)) m ∧ Below w0.heap.size w0 w' ∧ KeepBut w w' g none := by
  have HI := Aside0.mk hI
  have HB := Aside0.mk hB
  clear hI hB
  go_enter Try.func13, Try.ntmps13
  go_wp2_with fail
  refine (pic_Pic_has.calls g lines p m n true lines p m w0 _ HI.out HB.out (by unfold pic_Pic_has.f; rw [if_pos (by omega), decide_eq_true h1])).mono ?_
  rintro e w1 ⟨rfl, hI, hB, hK⟩
  have HK := Aside0.mk hK
  have HI2 := Aside0.mk hI
  have HB2 := Aside0.mk hB
  obtain ⟨HG, hg⟩ := hI
  have hc1 := cellS48_1 HG
  have hf1 := blk_frozen HG 1
  clear HI HB hK hB HG hg
  go_wp2_with fail
  go_region
  go_wp2
  go_ret
  exact ⟨rfl, by repeat (first | exact HI2.out | apply IsS48.alloc | apply IsS48.drewN | apply IsS48.drew | apply IsS48.set_0 | apply IsS48.set_1 | apply IsS48.set_2), by repeat (first | exact HB2.out | apply below_alloc | apply pw_below_drewN | apply below_drew1 | refine below_set ?_ (IsS48.ge HI2.out)), by repeat (first | exact HK.out | apply KeepBut.set_ | apply keep_drewN | apply keep_drew | apply keep_alloc)⟩
set_option maxHeartbeats 800000 in
theorem ack_not (g : Nat) (lines p m : Int) (n : Nat) (w0 w : World) (hI : IsS48 w0 w g lines p m) (hB : Below w0.heap.size w0 w) (h1 : (n : Int) < lines) (h2 : lines ≤ 32) (h3 : (Go.bits .and .u32 (p / 2 ^ n) 1 == 0) = true) :
    Calls Try.prog 13 #[.pointer (some ⟨g, 0, none⟩), .int .i64 n] w fun e w' => e = .returned (.int .i64 8) ∧ IsS48 w0 w' g lines p m ∧ Below w0.heap.size w0 w' ∧ KeepBut w w' g none := by
  have HI := Aside0.mk hI
  have HB := Aside0.mk hB
  clear hI hB
  go_enter Try.func13, Try.ntmps13
  go_wp2_with fail
  refine (pic_Pic_has.calls g lines p m n true lines p m w0 _ HI.out HB.out (by unfold pic_Pic_has.f; rw [if_pos (by omega), decide_eq_true h1])).mono ?_
  rintro e w1 ⟨rfl, hI, hB, hK⟩
  have HK := Aside0.mk hK
  have HI2 := Aside0.mk hI
  have HB2 := Aside0.mk hB
  obtain ⟨HG, hg⟩ := hI
  have hc1 := cellS48_1 HG
  clear HI HB hK hB HG hg
  go_wp2_with fail
  go_ret
  exact ⟨rfl, by repeat (first | exact HI2.out | apply IsS48.alloc | apply IsS48.drewN | apply IsS48.drew | apply IsS48.set_0 | apply IsS48.set_1 | apply IsS48.set_2), by repeat (first | exact HB2.out | apply below_alloc | apply pw_below_drewN | apply below_drew1 | refine below_set ?_ (IsS48.ge HI2.out)), by repeat (first | exact HK.out | apply KeepBut.set_ | apply keep_drewN | apply keep_drew | apply keep_alloc)⟩
set_option maxHeartbeats 800000 in
theorem raise_no (g : Nat) (lines p m n : Int) (w0 w : World) (hI : IsS48 w0 w g lines p m) (hB : Below w0.heap.size w0 w) (hb : pic_Pic_has.f lines p m n = some (false, lines, p, m)) :
    Calls Try.prog 10 #[.pointer (some ⟨g, 0, none⟩), .int .i64 n] w fun e w' => e = .returned (.int .i64 2) ∧ IsS48 w0 w' g lines p m ∧ Below w0.heap.size w0 w' ∧ KeepBut w w' g none := by
  have HI := Aside0.mk hI
  have HB := Aside0.mk hB
  have HH := Aside0.mk hb
  clear hI hB hb
  go_enter Try.func10, Try.ntmps10
  go_wp2_with fail
  refine (pic_Pic_has.calls g lines p m n false lines p m w0 _ HI.out HB.out HH.out).mono ?_
  rintro e w1 ⟨rfl, hI, hB, hK⟩
  have HK := Aside0.mk hK
  have HI2 := Aside0.mk hI
  have HB2 := Aside0.mk hB
  clear HI HB hI hB hK
  go_wp2_with fail
  go_ret
  exact ⟨rfl, by repeat (first | exact HI2.out | apply IsS48.alloc | apply IsS48.drewN | apply IsS48.drew | apply IsS48.set_0 | apply IsS48.set_1 | apply IsS48.set_2), by repeat (first | exact HB2.out | apply below_alloc | apply pw_below_drewN | apply below_drew1 | refine below_set ?_ (IsS48.ge HI2.out)), by repeat (first | exact HK.out | apply KeepBut.set_ | apply keep_drewN | apply keep_drew | apply keep_alloc)⟩
set_option maxHeartbeats 800000 in
theorem pending_same (g : Nat) (p : Int) (w : World) (hc : w.cell? ⟨g, 1, none⟩ = some (.int .u32 p)) :
    Calls Try.prog 12 #[.pointer (some ⟨g, 0, none⟩)] w fun e w' => e = .returned (.int .u32 p) ∧ w' = w := by
  go_enter Try.func12, Try.ntmps12
  go_wp2
  go_ret
  exact ⟨rfl, rfl⟩
set_option maxHeartbeats 800000 in
theorem masked_same (g : Nat) (m : Int) (w : World) (hc : w.cell? ⟨g, 2, none⟩ = some (.int .u32 m)) :
    Calls Try.prog 14 #[.pointer (some ⟨g, 0, none⟩)] w fun e w' => e = .returned (.int .u32 m) ∧ w' = w := by
  go_enter Try.func14, Try.ntmps14
  go_wp2
  go_ret
  exact ⟨rfl, rfl⟩
theorem wn1 : pic_Pic_Mask.f 4 5 0 1 = some (4, 5, 1) := by decide +kernel
theorem wn2 : pic_Pic_Next.f 40 4 5 1 = some (2, true, 4, 5, 1) := by decide +kernel
theorem wn3 : Go.bits .or .u32 0 (2 ^ 2 % 4294967296) = 4 := by decide +kernel
theorem wn4 : Go.bits .or .u32 4 (2 ^ 0 % 4294967296) = 5 := by decide +kernel
theorem wn5 : (Go.bits .and .u32 (5 / 2 ^ 1) 1 == 0) = true := by decide +kernel
theorem wn6 : pic_Pic_has.f 4 5 1 4 = some (false, 4, 5, 1) := by decide +kernel
set_option maxHeartbeats 800000 in
set_option maxRecDepth 100000 in
theorem works_calls (w : World) : Calls Try.prog 6 #[] w fun e w' => e = .returned (.bool true) ∧ Below w.heap.size w w' := by
  go_enter Try.func6, Try.ntmps6
  go_wp2_with fail
  refine (new_ok 4 _ (by omega) (by omega)).mono ?_
  rintro e w1 ⟨g, rfl, hI, hB⟩
  have HI := Aside0.mk hI
  have HB := Aside0.mk hB
  clear hI hB
  go_wp2_with fail
  refine (bulkheadlaw06_num.calls 0 0 _ rfl).mono ?_
  rintro e w' ⟨rfl, ⟨n1, rfl⟩⟩
  go_wp2_with fail
  refine (raise_ok g 4 0 0 2 w _ (IsS48.drewN HI.out n1) (pw_below_drewN HB.out n1) (by omega) (by omega)).mono ?_
  rintro e w2 ⟨rfl, hI, hB, -⟩
  rw [wn3] at hI
  have HI2 := Aside0.mk hI
  have HB2 := Aside0.mk hB
  clear hI hB HI HB
  go_wp2_with fail
  refine (raise_ok g 4 4 0 0 w _ HI2.out HB2.out (by omega) (by omega)).mono ?_
  rintro e w3 ⟨rfl, hI, hB, -⟩
  rw [wn4] at hI
  have HI3 := Aside0.mk hI
  have HB3 := Aside0.mk hB
  clear hI hB HI2 HB2
  go_wp2_with fail
  refine (pic_Pic_Mask.calls g 4 5 0 1 4 5 1 w _ HI3.out HB3.out wn1).mono ?_
  rintro e w4 ⟨rfl, hI, hB, -⟩
  have HI4 := Aside0.mk hI
  have HB4 := Aside0.mk hB
  clear hI hB HI3 HB3
  go_wp2_with fail
  refine (pic_Pic_Next.calls 40 g 4 5 1 2 true 4 5 1 w _ HI4.out HB4.out wn2).mono ?_
  rintro e w5 ⟨rfl, hI, hB, -⟩
  have HI5 := Aside0.mk hI
  have HB5 := Aside0.mk hB
  clear hI hB HI4 HB4
  go_wp2_with fail
  refine (bulkheadlaw06_num.calls 0 0 _ rfl).mono ?_
  rintro e w' ⟨rfl, ⟨n2, rfl⟩⟩
  go_wp2_with fail
  refine (bulkheadlaw06_num.calls 0 0 _ rfl).mono ?_
  rintro e w' ⟨rfl, ⟨n3, rfl⟩⟩
  go_wp2_with fail
  refine (pic_Pic_Pending.calls g 4 5 1 5 4 5 1 w _ (IsS48.drewN HI5.out _) (pw_below_drewN HB5.out _) rfl).mono ?_
  rintro e w6 ⟨rfl, hI, hB, -⟩
  have HI6 := Aside0.mk hI
  have HB6 := Aside0.mk hB
  clear hI hB HI5 HB5
  go_wp2_with fail
  refine (ack_not g 4 5 1 1 w _ HI6.out HB6.out (by omega) (by omega) wn5).mono ?_
  rintro e w7 ⟨rfl, hI, hB, -⟩
  have HI7 := Aside0.mk hI
  have HB7 := Aside0.mk hB
  clear hI hB HI6 HB6
  go_wp2_with fail
  refine (bulkheadlaw06_num.calls 8 8 _ rfl).mono ?_
  rintro e w' ⟨rfl, ⟨n4, rfl⟩⟩
  go_wp2_with fail
  refine (raise_no g 4 5 1 4 w _ (IsS48.drewN HI7.out _) (pw_below_drewN HB7.out _) wn6).mono ?_
  rintro e w8 ⟨rfl, hI, hB, -⟩
  have HB8 := Aside0.mk hB
  clear hI hB HI7 HB7
  go_wp2_with fail
  refine (bulkheadlaw06_num.calls 2 2 _ rfl).mono ?_
  rintro e w' ⟨rfl, ⟨n5, rfl⟩⟩
  go_wp2_with fail
  go_ret
  exact ⟨rfl, by repeat (first | exact HB8.out | apply pw_below_drewN | apply below_drew)⟩
/-- What is left behind line la: of the lines up to la just the masked ones. -/
def Inv (R mk : Nat) (la : Int) (P : Nat) : Prop := ∀ j : Nat, ((j : Int) ≤ la → P.testBit j = (R.testBit j && mk.testBit j)) ∧ (la < (j : Int) → P.testBit j = R.testBit j)
theorem inv_end {R mk P : Nat} {la : Int} (h : Inv R mk la P) (hP : P < 4294967296) (hm : mk < 4294967296) (hz : dn P mk = 0) : P = R &&& mk := by
  refine Nat.eq_of_testBit_eq fun j => ?_
  rw [Nat.testBit_and]
  by_cases hj : (j : Int) ≤ la
  · exact (h j).1 hj
  · have h1 := (h j).2 (by omega)
    have h2 := dn_bit hP hm j
    rw [hz, Nat.zero_testBit, h1] at h2
    rw [h1]
    cases hb : R.testBit j with
    | false => rfl
    | true =>
      rw [hb] at h2
      cases hc : mk.testBit j with
      | false =>
        rw [hc] at h2
        cases h2
      | true => rfl
theorem inv_gt {R mk P n : Nat} {la : Int} (h : Inv R mk la P) (hP : P < 4294967296) (hm : mk < 4294967296) (hb : (dn P mk).testBit n = true) : la < (n : Int) ∧ P.testBit n = true ∧ mk.testBit n = false := by
  rw [dn_bit hP hm] at hb
  have h1 : P.testBit n = true ∧ mk.testBit n = false := by simpa using hb
  refine ⟨?_, h1⟩
  refine Decidable.byContradiction fun hn => ?_
  have h2 := (h n).1 (by omega)
  rw [h1.1, h1.2] at h2
  simp at h2
theorem inv_step {R mk P n : Nat} {la : Int} (h : Inv R mk la P) (hP : P < 4294967296) (hm : mk < 4294967296) (hn : n < 32) (hb : (dn P mk).testBit n = true) (hz : ∀ j, j < n → (dn P mk).testBit j = false) : Inv R mk n (dn P (2 ^ n)) := by
  have hp2 : 2 ^ n < 4294967296 := Nat.pow_lt_pow_right (a := 2) (by decide) hn
  obtain ⟨g1, g2, g3⟩ := inv_gt h hP hm hb
  intro j
  rw [dn_bit hP hp2, Nat.testBit_two_pow]
  constructor
  · intro hj
    by_cases hjn : n = j
    · subst hjn
      simp [g3]
    · have e1 : decide (n = j) = false := decide_eq_false hjn
      rw [e1]
      by_cases hl : (j : Int) ≤ la
      · rw [(h j).1 hl]
        simp
      · have h1 := (h j).2 (by omega)
        have h2 := hz j (by omega)
        rw [dn_bit hP hm, h1] at h2
        rw [h1]
        cases hr : R.testBit j with
        | false => rfl
        | true =>
          rw [hr] at h2
          cases hc : mk.testBit j with
          | false =>
            rw [hc] at h2
            cases h2
          | true => rfl
  · intro hj
    have e1 : decide (n = j) = false := decide_eq_false (by omega)
    rw [e1, (h j).2 (by omega)]
    simp
set_option maxHeartbeats 1600000 in
set_option maxRecDepth 100000 in
theorem first (lines0 raised0 : Int) (L R mk M : Nat) (w : World) (hL : Aside0 (wrap64 (1 + wrap64 ((IntKind.u64.wrap lines0).tmod 32)) = (L : Int))) (L0 : 1 ≤ L) (L1 : L ≤ 32)
    (AL : Int) (hA : Aside0 (((2 : Int) ^ L % 4294967296 - 1) % 4294967296 = AL)) (hR : Aside0 (Go.bits .and .u32 raised0 AL = (R : Int))) (R1 : Aside0 (R < 2 ^ L)) (R2 : R < 4294967296)
    (m1 : mk < 4294967296) (M1 : M < 4294967296) (hMm : Aside0 (∀ P, P < 2 ^ L → dn P M = dn P mk)) (hMf : Aside0 (mk % 2 ^ L = M)) :
    Calls Try.prog 3 #[.int .i64 lines0, .int .u32 raised0, .int .u32 mk] w fun e w' => e = .returned (.bool true) ∧ Below w.heap.size w w' := by
  go_enter Try.func3, Try.ntmps3
  go_wp2_with fail
  refine (works_calls _).mono ?_
  rintro e w1 ⟨rfl, hB⟩
  have HB := Aside0.mk hB
  clear hB
  go_wp2_with fail
  rw [hL.out]
  refine (new_ok L _ (by omega) (by omega)).mono ?_
  rintro e w2 ⟨g, rfl, hI, hB⟩
  have HI := Aside0.mk (baseS hI HB.out.size)
  have HB2 := Aside0.mk (below_step HB.out hB)
  clear hI hB HB
  go_wp2_with fail
  refine (bulkheadlaw06_num.calls 0 0 _ rfl).mono ?_
  rintro e w' ⟨rfl, ⟨n1, rfl⟩⟩
  go_wp2_with fail
  have HA : Aside0 (Go.bits .and .u32 raised0 ((2 ^ L - 1) % 4294967296) = Go.bits .and .u32 raised0 ((2 ^ L % 4294967296 - 1) % 4294967296)) := ⟨by congr 1; omega⟩
  try rw [HA.out]
  rw [hA.out, hR.out]
  clear HA
  refine (pic_Pic_Mask.calls g L 0 0 mk L 0 M w _ (IsS48.drewN HI.out _) (pw_below_drewN HB2.out _) ((mask_f (R := 0) (M := 0) L1 m1).trans (by rw [hMf.out]; rfl))).mono ?_
  rintro e w3 ⟨rfl, hI, hB, -⟩
  have HI3 := Aside0.mk hI
  have HB3 := Aside0.mk hB
  clear hI hB HI HB2
  go_wp2_with fail
  go_loopw [10] (fun v wr => ∃ i : Nat, i ≤ L ∧ v = .int .i64 i ∧ Aside0 (IsS48 w wr g L ((R % 2 ^ i : Nat) : Int) M) ∧ Aside0 (Below w.heap.size w wr)) (fun v _ => L - (intOf v).toNat)
  case atStart =>
    refine ⟨0, by omega, rfl, ⟨?_⟩, HB3⟩
    have e0 : R % 2 ^ 0 = 0 := by omega
    rw [e0]
    exact HI3.out
  case round =>
    clear HI3 HB3
    obtain ⟨i, hi, rfl, HI, HB⟩ := hrel
    by_cases hlt : i < L
    · cases hbit : R.testBit i with
      | true =>
        have t1 : (Go.bits .and .u32 ((R : Int) / 2 ^ i) 1 == 1) = true := by
          rw [bit1 R2, hbit]
          rfl
        have H3 := Aside0.mk (or_bit (show i < 32 by omega) hbit)
        clear hbit
        go_wp2_with fail
        refine (raise_ok g L _ M i w _ HI.out HB.out (by omega) (by omega)).mono ?_
        rintro e w4 ⟨rfl, hI, hB, -⟩
        rw [H3.out] at hI
        have HI4 := Aside0.mk hI
        have HB4 := Aside0.mk hB
        clear hI hB HI HB
        go_wp2_with fail
        refine (bulkheadlaw06_num.calls 0 0 _ rfl).mono ?_
        rintro e w' ⟨rfl, ⟨n2, rfl⟩⟩
        go_wp2_with fail
        go_roundw
        case rel => exact ⟨i + 1, by omega, by go_num, ⟨IsS48.drewN HI4.out _⟩, ⟨pw_below_drewN HB4.out _⟩⟩
        case measure =>
          simp [intOf]
          omega
      | false =>
        have t1 : (Go.bits .and .u32 ((R : Int) / 2 ^ i) 1 == 1) = false := by
          rw [bit1 R2, hbit]
          rfl
        have H3 := Aside0.mk (no_bit hbit)
        clear hbit
        go_wp2_with fail
        go_roundw
        case rel => exact ⟨i + 1, by omega, by go_num, ⟨H3.out ▸ HI.out⟩, HB⟩
        case measure =>
          simp [intOf]
          omega
    · have HI2 : Aside0 (IsS48 w wr g L (R : Int) M) := ⟨by
        have h := HI.out
        rwa [show i = L by omega, Nat.mod_eq_of_lt R1.out] at h⟩
      clear HI
      go_wp2_with fail
      go_loopw [11, 12, 13] (fun v u x wr => ∃ (k : Nat) (la : Int) (P : Nat), v = .int .i64 la ∧ u = .int .u32 P ∧ x = .int .i64 k ∧ -1 ≤ la ∧ la ≤ 31 ∧ (k : Int) ≤ la + 1 ∧ Aside0 (P < 2 ^ L) ∧ P < 4294967296 ∧ Aside0 (Inv R mk la P) ∧ Aside0 (IsS48 w wr g L P M) ∧ Aside0 (Below w.heap.size w wr)) (fun _ _ x _ => 33 - (intOf x).toNat)
      case atStart => exact ⟨0, -1, R, rfl, rfl, rfl, by omega, by omega, by omega, R1, R2, ⟨fun j => ⟨fun h => absurd h (by omega), fun _ => rfl⟩⟩, HI2, HB⟩
      case round =>
        clear HI2 HB
        obtain ⟨k, la, P, rfl, rfl, rfl, la0, la1, hk, P1, P2, HV, HI, HB⟩ := hrel
        have hk33 : decide ((k : Int) < 33) = true := decide_eq_true (by omega)
        have HMP := Aside0.mk (hMm.out P P1.out)
        rcases next_f L1 P1.out M1 with ⟨hz, hnx⟩ | ⟨hz, n, hn, hnb, hnz, hnx⟩
        · have HN := Aside0.mk hnx
          rw [HMP.out] at hz
          have HE := Aside0.mk (inv_end HV.out P2 m1 hz)
          have f1 : ((P : Int) == Go.bits .and .u32 (R : Int) (mk : Int)) = true := by
            rw [u32_and_nat R mk R2 m1, ← HE.out]
            simp
          clear hnx hz
          go_wp2_with fail
          refine (pic_Pic_Next.calls 40 g L P M _ _ _ _ _ w _ HI.out HB.out HN.out).mono ?_
          rintro e w4 ⟨rfl, hI, hB, -⟩
          have HI4 := Aside0.mk hI
          have HB4 := Aside0.mk hB
          clear hI hB HI HB
          go_wp2_with fail
          refine (pic_Pic_Pending.calls g L P M P L P M w _ HI4.out HB4.out rfl).mono ?_
          rintro e w5 ⟨rfl, hI, hB, -⟩
          have HB5 := Aside0.mk hB
          clear hI hB HI4 HB4
          go_wp2_with fail
          go_ret
          exact ⟨rfl, by repeat (first | exact HB5.out | apply pw_below_drewN | apply below_drew)⟩
        · have HN := Aside0.mk hnx
          rw [HMP.out] at hnb hnz
          obtain ⟨q1, q2, q3⟩ := inv_gt HV.out P2 m1 hnb
          have hn32 : n < 32 := by omega
          have HV2 := Aside0.mk (inv_step HV.out P2 m1 hn32 hnb hnz)
          have hp2 : 2 ^ n < 4294967296 := Nat.pow_lt_pow_right (a := 2) (by decide) hn32
          have HP : Aside0 (Go.bits .andNot .u32 (P : Int) (2 ^ n % 4294967296) = ((dn P (2 ^ n) : Nat) : Int)) := ⟨by
            have e : (2 : Int) ^ n % 4294967296 = ((2 ^ n : Nat) : Int) := by
              have hp0 : 0 < 2 ^ n := Nat.pow_pos (by decide)
              rw [← pow_cast]
              omega
            rw [e, dn_eq P2 hp2]⟩
          have f1 : (Go.bits .and .u32 ((P : Int) / 2 ^ n) 1 == 0) = false := by
            rw [bit1 P2, q2]
            rfl
          have f2 : (Go.bits .and .u32 ((mk : Int) / 2 ^ n) 1 == 1) = false := by
            rw [bit1 m1, q3]
            rfl
          have P3 : dn P (2 ^ n) < 4294967296 := Nat.lt_of_le_of_lt (dn_le _ _) P2
          have P4 : Aside0 (dn P (2 ^ n) < 2 ^ L) := ⟨Nat.lt_of_le_of_lt (dn_le _ _) P1.out⟩
          clear hnx hz hnb hnz q2 q3 hp2
          go_wp2_with fail
          refine (pic_Pic_Next.calls 40 g L P M _ _ _ _ _ w _ HI.out HB.out HN.out).mono ?_
          rintro e w4 ⟨rfl, hI, hB, -⟩
          have HI4 := Aside0.mk hI
          have HB4 := Aside0.mk hB
          clear hI hB HI HB
          go_wp2_with fail
          refine (ack_ok g L P M n w _ HI4.out HB4.out (by omega) (by omega) f1).mono ?_
          rintro e w5 ⟨rfl, hI, hB, -⟩
          rw [HP.out] at hI
          have HI5 := Aside0.mk hI
          have HB5 := Aside0.mk hB
          clear hI hB HI4 HB4
          go_wp2_with fail
          refine (bulkheadlaw06_num.calls 0 0 _ rfl).mono ?_
          rintro e w' ⟨rfl, ⟨n2, rfl⟩⟩
          go_wp2_with fail
          go_roundw
          case rel => exact ⟨k + 1, n, dn P (2 ^ n), rfl, by rw [HP.out], by go_num, by omega, by omega, by omega, P4, P3, HV2, ⟨IsS48.drewN HI5.out _⟩, ⟨pw_below_drewN HB5.out _⟩⟩
          case measure =>
            simp [intOf]
            omega
theorem walk (lines0 raised0 mask0 : Int) (w : World) (_h0 : (Lit.int .i64 lines0).wf = true) (h1 : (Lit.int .u32 raised0).wf = true) (h2 : (Lit.int .u32 mask0).wf = true) :
    Calls Try.prog 3 #[.int .i64 lines0, .int .u32 raised0, .int .u32 mask0] w fun e w' => e = .returned (.bool true) ∧ Below w.heap.size w w' := by
  obtain ⟨r0, r1⟩ := u32_bd h1
  obtain ⟨k0, k1⟩ := u32_bd h2
  obtain ⟨L, L0, L1, hL⟩ : ∃ L : Nat, 1 ≤ L ∧ L ≤ 32 ∧ wrap64 (1 + wrap64 ((IntKind.u64.wrap lines0).tmod 32)) = (L : Int) := by
    refine ⟨(1 + (IntKind.u64.wrap lines0) % 32).toNat, ?_⟩
    have h0 : 0 ≤ IntKind.u64.wrap lines0 := by
      rw [u64w]
      omega
    rw [Int.tmod_eq_emod_of_nonneg h0, w64 (x := IntKind.u64.wrap lines0 % 32) (by omega) (by omega), w64 (by omega) (by omega)]
    omega
  have hp : 2 ^ L ≤ 4294967296 := Nat.pow_le_pow_right (n := 2) (by decide) L1
  have hp0 : 0 < 2 ^ L := Nat.pow_pos (by decide)
  obtain ⟨r, rfl⟩ := Int.eq_ofNat_of_zero_le r0
  obtain ⟨mk, rfl⟩ := Int.eq_ofNat_of_zero_le k0
  have key : ∀ m : Nat, m < 4294967296 → Go.bits .and .u32 (m : Int) (2 ^ L - 1) = ((m % 2 ^ L : Nat) : Int) := fun m hm => by
    rw [and_mask (by omega) (by omega) L L1, ← pow_cast]
    rfl
  have hR1 : r % 2 ^ L < 2 ^ L := Nat.mod_lt _ hp0
  have hM1 : mk % 2 ^ L < 2 ^ L := Nat.mod_lt _ hp0
  refine first lines0 r L (r % 2 ^ L) mk (mk % 2 ^ L) w ⟨hL⟩ L0 L1 (2 ^ L - 1) ⟨?_⟩ ⟨key r (by omega)⟩ ⟨hR1⟩ (by omega) (by omega) (by omega) ⟨fun P hP => dn_mod hP L1 (by omega)⟩ ⟨rfl⟩
  rw [← pow_cast]
  omega
end Go.Proofs.Ytoedliifhbpdnaa.HandDrains
