/- Masking hides lines and loses none: the walk of the law. -/
import Derived.Test.YtoedliifhbpdnaaPPicMasksx1
import Derived.Test.YtoedliifhbpdnaaAid
import Derived.RegionTactic
import Derived.ChangeAlike
namespace Go.Proofs.Ytoedliifhbpdnaa.HandMasks
open Go.RowKit Go.Proofs.Ytoedliifhbpdnaa.PPicMasks Go.Proofs.YtoedliifhbpdnaaW.PrintWords Go.Proofs.YtoedliifhbpdnaaW.PrintLast Go.Proofs.YtoedliifhbpdnaaW.PrintMore Go.Proofs.Ytoedliifhbpdnaa.Aid

/-- The lines of R that are not in m. -/
def dn (R m : Nat) : Nat := R &&& (4294967295 - m)
theorem lt_of_bit {R i : Nat} (hR : R < 4294967296) (h : R.testBit i = true) : i < 32 := by
  refine Decidable.byContradiction fun hn => ?_
  have h2 : R < 2 ^ i := Nat.lt_of_lt_of_le hR (Nat.pow_le_pow_right (n := 2) (by decide) (show 32 ≤ i by omega))
  rw [Nat.testBit_lt_two_pow h2] at h
  cases h
theorem dn_bit {R m : Nat} (hR : R < 4294967296) (hm : m < 4294967296) (i : Nat) : (dn R m).testBit i = (R.testBit i && !m.testBit i) := by
  have h := Nat.testBit_two_pow_sub_succ (n := 32) hm i
  have e : 2 ^ 32 - (m + 1) = 4294967295 - m := by omega
  rw [e] at h
  unfold dn
  rw [Nat.testBit_and, h]
  cases hb : R.testBit i with
  | false => rfl
  | true =>
    have := lt_of_bit hR hb
    simp [this]
theorem dn_eq {R m : Nat} (hR : R < 4294967296) (hm : m < 4294967296) : Go.bits .andNot .u32 (R : Int) (m : Int) = ((dn R m : Nat) : Int) := u32_andNot_nat R m hR hm
theorem dn_le (R m : Nat) : dn R m ≤ R := Nat.and_le_left
theorem mod_bit (m L i : Nat) : (m % 2 ^ L).testBit i = (decide (i < L) && m.testBit i) := Nat.testBit_mod_two_pow m L i
theorem dn_mod {R m L : Nat} (hR : R < 2 ^ L) (hL : L ≤ 32) (hm : m < 4294967296) : dn R (m % 2 ^ L) = dn R m := by
  have hp : 2 ^ L ≤ 4294967296 := Nat.pow_le_pow_right (n := 2) (by decide) hL
  have h1 : m % 2 ^ L < 4294967296 := Nat.lt_of_le_of_lt (Nat.mod_le _ _) hm
  refine Nat.eq_of_testBit_eq fun i => ?_
  rw [dn_bit (by omega) h1, dn_bit (by omega) hm, mod_bit]
  by_cases hi : i < L
  · simp [hi]
  · have h2 : R < 2 ^ i := Nat.lt_of_lt_of_le hR (Nat.pow_le_pow_right (n := 2) (by decide) (by omega))
    rw [Nat.testBit_lt_two_pow h2]
    rfl
theorem bit1 {D : Nat} (hD : D < 4294967296) (i : Nat) : Go.bits .and .u32 ((D : Int) / 2 ^ i) 1 = (((D.testBit i).toNat : Nat) : Int) := by
  have h : (D : Int) / 2 ^ i = ((D / 2 ^ i : Nat) : Int) := by
    rw [← pow_cast]
    rfl
  have hle : D / 2 ^ i ≤ D := Nat.div_le_self _ _
  rw [h]
  have h2 := u32_and_nat (D / 2 ^ i) 1 (by omega) (by omega)
  rw [nat_mask1] at h2
  rw [Nat.toNat_testBit]
  exact h2
theorem or_bit {R i : Nat} (hi : i < 32) (hb : R.testBit i = true) :
    Go.bits .or .u32 ((R % 2 ^ i : Nat) : Int) (2 ^ i % 4294967296) = ((R % 2 ^ (i + 1) : Nat) : Int) := by
  have hpi : 2 ^ i < 4294967296 := Nat.pow_lt_pow_right (a := 2) (by decide) hi
  have h1 : R % 2 ^ i < 2 ^ i := Nat.mod_lt _ (Nat.pow_pos (by decide))
  have e1 : (2 : Int) ^ i % 4294967296 = ((2 ^ i : Nat) : Int) := by
    rw [← pow_cast]
    omega
  rw [e1, u32_or_nat _ _ (by omega) hpi, Nat.or_comm, nat_join i (2 ^ i) (R % 2 ^ i) (Nat.mod_self _) h1, Nat.mod_pow_succ]
  have h2 := Nat.toNat_testBit R i
  rw [hb] at h2
  have h3 : R / 2 ^ i % 2 = 1 := h2.symm
  rw [h3]
  congr 1
  omega
theorem no_bit {R i : Nat} (hb : R.testBit i = false) : R % 2 ^ i = R % 2 ^ (i + 1) := by
  have h2 := Nat.toNat_testBit R i
  rw [hb] at h2
  have h3 : R / 2 ^ i % 2 = 0 := h2.symm
  rw [Nat.mod_pow_succ, h3]
  omega
theorem low_zero {D n : Nat} (h : ∀ j, j < n → D.testBit j = false) : D % 2 ^ n = 0 := by
  refine Nat.eq_of_testBit_eq fun i => ?_
  rw [mod_bit, Nat.zero_testBit]
  by_cases hi : i < n
  · simp [hi, h i hi]
  · simp [hi]
theorem next_loop {L R M : Nat} (hL : L ≤ 32) (hR : R < 2 ^ L) (hM : M < 4294967296) (d : Nat) : ∀ (k i : Nat), i + d = L → (∀ j, j < i → (dn R M).testBit j = false) → d < k →
    (dn R M = 0 ∧ pic_Pic_Next.l0 k (L : Int) (i : Int) (L : Int) (R : Int) (M : Int) = some (0, false, (L : Int), (R : Int), (M : Int))) ∨
    (dn R M ≠ 0 ∧ ∃ n : Nat, n < L ∧ (dn R M).testBit n = true ∧ (∀ j, j < n → (dn R M).testBit j = false) ∧ pic_Pic_Next.l0 k (L : Int) (i : Int) (L : Int) (R : Int) (M : Int) = some ((n : Int), true, (L : Int), (R : Int), (M : Int))) := by
  have hp : 2 ^ L ≤ 4294967296 := Nat.pow_le_pow_right (n := 2) (by decide) hL
  have hD := dn_le R M
  induction d with
  | zero =>
    intro k i hi hz hk
    obtain ⟨k, rfl⟩ : ∃ j, k = j + 1 := ⟨k - 1, by omega⟩
    left
    simp only [pic_Pic_Next.l0]
    rw [if_neg (by omega)]
    refine ⟨?_, rfl⟩
    have h1 := low_zero hz
    rw [show i = L by omega, Nat.mod_eq_of_lt (by omega)] at h1
    exact h1
  | succ d ih =>
    intro k i hi hz hk
    obtain ⟨k, rfl⟩ : ∃ j, k = j + 1 := ⟨k - 1, by omega⟩
    simp only [pic_Pic_Next.l0]
    have e : shr .u32 (Go.bits .andNot .u32 (R : Int) (M : Int)) (i : Int) = ((dn R M : Nat) : Int) / 2 ^ i := by
      rw [dn_eq (by omega) hM]
      unfold shr
      have em : min (i : Int).toNat IntKind.u32.bits = i := by
        simp only [IntKind.bits]
        omega
      rw [em]
    rw [if_pos (by omega), if_pos (by omega), e, bit1 (by omega)]
    cases hb : (dn R M).testBit i with
    | true =>
      right
      refine ⟨fun h0 => ?_, i, by omega, hb, hz, ?_⟩
      · rw [h0, Nat.zero_testBit] at hb
        cases hb
      · rw [if_pos (by decide)]
    | false =>
      rw [if_neg (by decide), w64 (by omega) (by omega)]
      refine ih k (i + 1) (by omega) (fun j hj => ?_) (by omega)
      rcases Nat.lt_or_ge j i with h | h
      · exact hz j h
      · rw [show j = i by omega]
        exact hb
theorem next_f {L R M : Nat} (hL : L ≤ 32) (hR : R < 2 ^ L) (hM : M < 4294967296) :
    (dn R M = 0 ∧ pic_Pic_Next.f 40 (L : Int) (R : Int) (M : Int) = some (0, false, (L : Int), (R : Int), (M : Int))) ∨
    (dn R M ≠ 0 ∧ ∃ n : Nat, n < L ∧ (dn R M).testBit n = true ∧ (∀ j, j < n → (dn R M).testBit j = false) ∧ pic_Pic_Next.f 40 (L : Int) (R : Int) (M : Int) = some ((n : Int), true, (L : Int), (R : Int), (M : Int))) :=
  next_loop hL hR hM L 40 0 (by omega) (fun j hj => absurd hj (by omega)) (by omega)
theorem mask_f {L R M m : Nat} (hL : L ≤ 32) (hm : m < 4294967296) : pic_Pic_Mask.f (L : Int) (R : Int) (M : Int) (m : Int) = some ((L : Int), (R : Int), ((m % 2 ^ L : Nat) : Int)) := by
  unfold pic_Pic_Mask.f
  rw [if_pos (by omega)]
  have em : min (L : Int).toNat IntKind.u32.bits = L := by
    simp only [IntKind.bits]
    omega
  have hp : 2 ^ L ≤ 4294967296 := Nat.pow_le_pow_right (n := 2) (by decide) hL
  have hp0 : 0 < 2 ^ L := Nat.pow_pos (by decide)
  have e1 : (shl .u32 1 (L : Int) - 1) % 4294967296 = 2 ^ L - 1 := by
    unfold shl
    rw [em, u32w, Int.one_mul, ← pow_cast]
    omega
  rw [e1, and_mask (by omega) (by omega) L hL, ← pow_cast]
  rfl
theorem dn_zero {R : Nat} (hR : R < 4294967296) : dn R 0 = R := by
  refine Nat.eq_of_testBit_eq fun i => ?_
  rw [dn_bit hR (by decide)]
  simp
theorem keepS {w0 W W' : World} {g g' : Nat} {a b c : Int} (h : IsS48 w0 W g a b c) (hk : KeepBut W W' g' none) (hne : g ≠ g') : IsS48 w0 W' g a b c := ⟨hk.blk h.1 hne (by simp), h.2⟩
theorem belowS {w0 W W' : World} {g : Nat} {a b c : Int} (h : IsS48 w0 W g a b c) (hb : Below W.heap.size W W') : IsS48 w0 W' g a b c := ⟨(hb.block g (blk_lt h.1)).trans h.1, h.2⟩
theorem baseS {w0 w1 W : World} {g : Nat} {a b c : Int} (h : IsS48 w1 W g a b c) (hs : w0.heap.size ≤ w1.heap.size) : IsS48 w0 W g a b c := ⟨h.1, Nat.le_trans hs h.2⟩
theorem neS {w0 W1 W : World} {g g' : Nat} {a a' b b' c c' : Int} (h : IsS48 w0 W1 g a b c) (h' : IsS48 W1 W g' a' b' c') : g ≠ g' := by
  have h1 := blk_lt h.1
  have h2 := h'.2
  omega
set_option maxHeartbeats 800000 in
theorem new_ok (n : Int) (w : World) (h0 : 1 ≤ n) (h1 : n ≤ 32) :
    Calls Try.prog 7 #[.int .i64 n] w fun e w' => ∃ g : Nat, e = .returned (.tuple #[.pointer (some ⟨g, 0, none⟩), .int .i64 0]) ∧ IsS48 w w' g n 0 0 ∧ Below w.heap.size w w' := by
  go_enter Try.func7, Try.ntmps7
  go_wp2
  go_ret2
  exact ⟨_, rfl, ⟨heap_alloc_new w _, Nat.le_refl _⟩, (Below.refl _ _).alloc (Nat.le_refl _) _⟩
set_option maxHeartbeats 800000 in
theorem raise_ok (g : Nat) (lines p m : Int) (n : Nat) (w0 w : World) (hI : IsS48 w0 w g lines p m) (hB : Below w0.heap.size w0 w) (h1 : (n : Int) < lines) (h2 : lines ≤ 32) :
    Calls Try.prog 10 #[.pointer (some ⟨g, 0, none⟩), .int .i64 n] w fun e w' => e = .returned (.int .i64 0) ∧ IsS48 w0 w' g lines (Go.bits .or .u32 p (2 ^ n % 4294967296)) m ∧ Below w0.heap.size w0 w' ∧ KeepBut w w' g none := by
  have HI := Aside0.mk hI
  have HB := Aside0.mk hB
  clear hI hB
  go_enter Try.func10, Try.ntmps10
  go_wp2_with fail
  refine (pic_Pic_has.calls g lines p m n true lines p m w0 _ HI.out HB.out (by unfold pic_Pic_has.f; rw [if_pos (by omega), decide_eq_true h1])).mono ?_
  rintro e w1 ⟨rfl, hI, hB, hK⟩
  have HK := Aside0.mk hK
  have HI2 := Aside0.mk hI
  have HB2 := Aside0.mk hB
  obtain ⟨HG, hg⟩ := hI
  have hc1 := cellS48_1 HG
  have hf1 := blk_frozen HG 1
  clear HI HB hK hB HG hg
  go_wp2_with fail
  go_region
  go_wp2
  go_ret
  exact ⟨rfl, by repeat (first | exact HI2.out | apply IsS48.alloc | apply IsS48.drewN | apply IsS48.drew | apply IsS48.set_0 | apply IsS48.set_1 | apply IsS48.set_2), by repeat (first | exact HB2.out | apply below_alloc | apply pw_below_drewN | apply below_drew1 | refine below_set ?_ (IsS48.ge HI2.out)), by repeat (first | exact HK.out | apply KeepBut.set_ | apply keep_drewN | apply keep_drew | apply keep_alloc)⟩
set_option maxHeartbeats 800000 in
theorem ack_ok (g : Nat) (lines p m : Int) (n : Nat) (w0 w : World) (hI : IsS48 w0 w g lines p m) (hB : Below w0.heap.size w0 w) (h1 : (n : Int) < lines) (h2 : lines ≤ 32) (h3 : (Go.bits .and .u32 (p / 2 ^ n) 1 == 0) = false) :
    Calls Try.prog 13 #[.pointer (some ⟨g, 0, none⟩), .int .i64 n] w fun e w' => e = .returned (.int .i64 0) ∧ IsS48 w0 w' g lines (Go.bits .andNot .u32 p (2 ^ n % 4294967296)) m ∧ Below w0.heap.size w0 w' ∧ KeepBut w w' g none := by
  have HI := Aside0.mk hI
  have HB := Aside0.mk hB
  clear hI hB
  go_enter Try.func13, Try.ntmps13
  go_wp2_with fail
  refine (pic_Pic_has.calls g lines p m n true lines p m w0 _ HI.out HB.out (by unfold pic_Pic_has.f; rw [if_pos (by omega), decide_eq_true h1])).mono ?_
  rintro e w1 ⟨rfl, hI, hB, hK⟩
  have HK := Aside0.mk hK
  have HI2 := Aside0.mk hI
  have HB2 := Aside0.mk hB
  obtain ⟨HG, hg⟩ := hI
  have hc1 := cellS48_1 HG
  have hf1 := blk_frozen HG 1
  clear HI HB hK hB HG hg
  go_wp2_with fail
  go_region
  go_wp2
  go_ret
  exact ⟨rfl, by repeat (first | exact HI2.out | apply IsS48.alloc | apply IsS48.drewN | apply IsS48.drew | apply IsS48.set_0 | apply IsS48.set_1 | apply IsS48.set_2), by repeat (first | exact HB2.out | apply below_alloc | apply pw_below_drewN | apply below_drew1 | refine below_set ?_ (IsS48.ge HI2.out)), by repeat (first | exact HK.out | apply KeepBut.set_ | apply keep_drewN | apply keep_drew | apply keep_alloc)⟩
set_option maxHeartbeats 800000 in
theorem ack_not (g : Nat) (lines p m : Int) (n : Nat) (w0 w : World) (hI : IsS48 w0 w g lines p m) (hB : Below w0.heap.size w0 w) (h1 : (n : Int) < lines) (h2 : lines ≤ 32) (h3 : (Go.bits .and .u32 (p / 2 ^ n) 1 == 0) = true) :
    Calls Try.prog 13 #[.pointer (some ⟨g, 0, none⟩), .int .i64 n] w fun e w' => e = .returned (.int .i64 8) ∧ IsS48 w0 w' g lines p m ∧ Below w0.heap.size w0 w' ∧ KeepBut w w' g none := by
  have HI := Aside0.mk hI
  have HB := Aside0.mk hB
  clear hI hB
  go_enter Try.func13, Try.ntmps13
  go_wp2_with fail
  refine (pic_Pic_has.calls g lines p m n true lines p m w0 _ HI.out HB.out (by unfold pic_Pic_has.f; rw [if_pos (by omega), decide_eq_true h1])).mono ?_
  rintro e w1 ⟨rfl, hI, hB, hK⟩
  have HK := Aside0.mk hK
  have HI2 := Aside0.mk hI
  have HB2 := Aside0.mk hB
  obtain ⟨HG, hg⟩ := hI
  have hc1 := cellS48_1 HG
  clear HI HB hK hB HG hg
  go_wp2_with fail
  go_ret
  exact ⟨rfl, by repeat (first | exact HI2.out | apply IsS48.alloc | apply IsS48.drewN | apply IsS48.drew | apply IsS48.set_0 | apply IsS48.set_1 | apply IsS48.set_2), by repeat (first | exact HB2.out | apply below_alloc | apply pw_below_drewN | apply below_drew1 | refine below_set ?_ (IsS48.ge HI2.out)), by repeat (first | exact HK.out | apply KeepBut.set_ | apply keep_drewN | apply keep_drew | apply keep_alloc)⟩
set_option maxHeartbeats 800000 in
theorem raise_no (g : Nat) (lines p m n : Int) (w0 w : World) (hI : IsS48 w0 w g lines p m) (hB : Below w0.heap.size w0 w) (hb : pic_Pic_has.f lines p m n = some (false, lines, p, m)) :
    Calls Try.prog 10 #[.pointer (some ⟨g, 0, none⟩), .int .i64 n] w fun e w' => e = .returned (.int .i64 2) ∧ IsS48 w0 w' g lines p m ∧ Below w0.heap.size w0 w' ∧ KeepBut w w' g none := by
  have HI := Aside0.mk hI
  have HB := Aside0.mk hB
  have HH := Aside0.mk hb
  clear hI hB hb
  go_enter Try.func10, Try.ntmps10
  go_wp2_with fail
  refine (pic_Pic_has.calls g lines p m n false lines p m w0 _ HI.out HB.out HH.out).mono ?_
  rintro e w1 ⟨rfl, hI, hB, hK⟩
  have HK := Aside0.mk hK
  have HI2 := Aside0.mk hI
  have HB2 := Aside0.mk hB
  clear HI HB hI hB hK
  go_wp2_with fail
  go_ret
  exact ⟨rfl, by repeat (first | exact HI2.out | apply IsS48.alloc | apply IsS48.drewN | apply IsS48.drew | apply IsS48.set_0 | apply IsS48.set_1 | apply IsS48.set_2), by repeat (first | exact HB2.out | apply below_alloc | apply pw_below_drewN | apply below_drew1 | refine below_set ?_ (IsS48.ge HI2.out)), by repeat (first | exact HK.out | apply KeepBut.set_ | apply keep_drewN | apply keep_drew | apply keep_alloc)⟩
set_option maxHeartbeats 800000 in
theorem pending_same (g : Nat) (p : Int) (w : World) (hc : w.cell? ⟨g, 1, none⟩ = some (.int .u32 p)) :
    Calls Try.prog 12 #[.pointer (some ⟨g, 0, none⟩)] w fun e w' => e = .returned (.int .u32 p) ∧ w' = w := by
  go_enter Try.func12, Try.ntmps12
  go_wp2
  go_ret
  exact ⟨rfl, rfl⟩
set_option maxHeartbeats 800000 in
theorem masked_same (g : Nat) (m : Int) (w : World) (hc : w.cell? ⟨g, 2, none⟩ = some (.int .u32 m)) :
    Calls Try.prog 14 #[.pointer (some ⟨g, 0, none⟩)] w fun e w' => e = .returned (.int .u32 m) ∧ w' = w := by
  go_enter Try.func14, Try.ntmps14
  go_wp2
  go_ret
  exact ⟨rfl, rfl⟩
theorem wn1 : pic_Pic_Mask.f 4 5 0 1 = some (4, 5, 1) := by decide +kernel
theorem wn2 : pic_Pic_Next.f 40 4 5 1 = some (2, true, 4, 5, 1) := by decide +kernel
theorem wn3 : Go.bits .or .u32 0 (2 ^ 2 % 4294967296) = 4 := by decide +kernel
theorem wn4 : Go.bits .or .u32 4 (2 ^ 0 % 4294967296) = 5 := by decide +kernel
theorem wn5 : (Go.bits .and .u32 (5 / 2 ^ 1) 1 == 0) = true := by decide +kernel
theorem wn6 : pic_Pic_has.f 4 5 1 4 = some (false, 4, 5, 1) := by decide +kernel
set_option maxHeartbeats 800000 in
set_option maxRecDepth 100000 in
theorem works_calls (w : World) : Calls Try.prog 6 #[] w fun e w' => e = .returned (.bool true) ∧ Below w.heap.size w w' := by
  go_enter Try.func6, Try.ntmps6
  go_wp2_with fail
  refine (new_ok 4 _ (by omega) (by omega)).mono ?_
  rintro e w1 ⟨g, rfl, hI, hB⟩
  have HI := Aside0.mk hI
  have HB := Aside0.mk hB
  clear hI hB
  go_wp2_with fail
  refine (bulkheadlaw06_num.calls 0 0 _ rfl).mono ?_
  rintro e w' ⟨rfl, ⟨n1, rfl⟩⟩
  go_wp2_with fail
  refine (raise_ok g 4 0 0 2 w _ (IsS48.drewN HI.out n1) (pw_below_drewN HB.out n1) (by omega) (by omega)).mono ?_
  rintro e w2 ⟨rfl, hI, hB, -⟩
  rw [wn3] at hI
  have HI2 := Aside0.mk hI
  have HB2 := Aside0.mk hB
  clear hI hB HI HB
  go_wp2_with fail
  refine (raise_ok g 4 4 0 0 w _ HI2.out HB2.out (by omega) (by omega)).mono ?_
  rintro e w3 ⟨rfl, hI, hB, -⟩
  rw [wn4] at hI
  have HI3 := Aside0.mk hI
  have HB3 := Aside0.mk hB
  clear hI hB HI2 HB2
  go_wp2_with fail
  refine (pic_Pic_Mask.calls g 4 5 0 1 4 5 1 w _ HI3.out HB3.out wn1).mono ?_
  rintro e w4 ⟨rfl, hI, hB, -⟩
  have HI4 := Aside0.mk hI
  have HB4 := Aside0.mk hB
  clear hI hB HI3 HB3
  go_wp2_with fail
  refine (pic_Pic_Next.calls 40 g 4 5 1 2 true 4 5 1 w _ HI4.out HB4.out wn2).mono ?_
  rintro e w5 ⟨rfl, hI, hB, -⟩
  have HI5 := Aside0.mk hI
  have HB5 := Aside0.mk hB
  clear hI hB HI4 HB4
  go_wp2_with fail
  refine (bulkheadlaw06_num.calls 0 0 _ rfl).mono ?_
  rintro e w' ⟨rfl, ⟨n2, rfl⟩⟩
  go_wp2_with fail
  refine (bulkheadlaw06_num.calls 0 0 _ rfl).mono ?_
  rintro e w' ⟨rfl, ⟨n3, rfl⟩⟩
  go_wp2_with fail
  refine (pic_Pic_Pending.calls g 4 5 1 5 4 5 1 w _ (IsS48.drewN HI5.out _) (pw_below_drewN HB5.out _) rfl).mono ?_
  rintro e w6 ⟨rfl, hI, hB, -⟩
  have HI6 := Aside0.mk hI
  have HB6 := Aside0.mk hB
  clear hI hB HI5 HB5
  go_wp2_with fail
  refine (ack_not g 4 5 1 1 w _ HI6.out HB6.out (by omega) (by omega) wn5).mono ?_
  rintro e w7 ⟨rfl, hI, hB, -⟩
  have HI7 := Aside0.mk hI
  have HB7 := Aside0.mk hB
  clear hI hB HI6 HB6
  go_wp2_with fail
  refine (bulkheadlaw06_num.calls 8 8 _ rfl).mono ?_
  rintro e w' ⟨rfl, ⟨n4, rfl⟩⟩
  go_wp2_with fail
  refine (raise_no g 4 5 1 4 w _ (IsS48.drewN HI7.out _) (pw_below_drewN HB7.out _) wn6).mono ?_
  rintro e w8 ⟨rfl, hI, hB, -⟩
  have HB8 := Aside0.mk hB
  clear hI hB HI7 HB7
  go_wp2_with fail
  refine (bulkheadlaw06_num.calls 2 2 _ rfl).mono ?_
  rintro e w' ⟨rfl, ⟨n5, rfl⟩⟩
  go_wp2_with fail
  go_ret
  exact ⟨rfl, by repeat (first | exact HB8.out | apply pw_below_drewN | apply below_drew)⟩
theorem rd_in (l : List Int) (i : Nat) (h : i < l.length) : rd l (i : Int) ∈ l := by
  have : rd l (i : Int) = l[i] := by simp [rd, h]
  rw [this]
  exact List.getElem_mem h
set_option maxHeartbeats 1600000 in
set_option maxRecDepth 100000 in
theorem first (lines0 raised0 : Int) (L R : Nat) (A : Option Addr) (c : Nat) (l : List Int) (w : World) (hL : Aside0 (wrap64 (1 + wrap64 ((IntKind.u64.wrap lines0).tmod 32)) = (L : Int))) (L0 : 1 ≤ L) (L1 : L ≤ 32)
    (AL : Int) (hA : Aside0 (((2 : Int) ^ L % 4294967296 - 1) % 4294967296 = AL)) (hR : Aside0 (Go.bits .and .u32 raised0 AL = (R : Int))) (R1 : Aside0 (R < 2 ^ L)) (R2 : R < 4294967296)
    (hr : Aside0 (Kd.C (Kd.int .u32) w A l.length l)) (hl : Aside0 (∀ x ∈ l, 0 ≤ x ∧ x < 4294967296)) (hlen : l.length ≤ 140737488351232)
    (hM : Aside0 (∀ m : Nat, m < 4294967296 → Go.bits .and .u32 (m : Int) AL = ((m % 2 ^ L : Nat) : Int))) :
    Calls Try.prog 4 #[.int .i64 lines0, .int .u32 raised0, .slice A l.length c] w fun e w' => e = .returned (.bool true) ∧ Below w.heap.size w w' := by
  go_enter Try.func4, Try.ntmps4
  go_wp2_with fail
  refine (works_calls _).mono ?_
  rintro e w1 ⟨rfl, hB⟩
  have HB := Aside0.mk hB
  clear hB
  go_wp2_with fail
  rw [hL.out]
  refine (new_ok L _ (by omega) (by omega)).mono ?_
  rintro e w2 ⟨g, rfl, hI, hB⟩
  have HI := Aside0.mk (baseS hI HB.out.size)
  have HB2 := Aside0.mk (below_step HB.out hB)
  clear hI hB HB
  go_wp2_with fail
  refine (bulkheadlaw06_num.calls 0 0 _ rfl).mono ?_
  rintro e w' ⟨rfl, ⟨n1, rfl⟩⟩
  by_cases h100 : 100 < l.length
  · go_wp2_with fail
    go_ret
    exact ⟨rfl, pw_below_drewN HB2.out _⟩
  · go_wp2_with fail
    have HA : Aside0 (Go.bits .and .u32 raised0 ((2 ^ L - 1) % 4294967296) = Go.bits .and .u32 raised0 ((2 ^ L % 4294967296 - 1) % 4294967296)) := ⟨by congr 1; omega⟩
    try rw [HA.out]
    rw [hA.out, hR.out]
    clear HA
    go_loopw [10] (fun v wr => ∃ i : Nat, i ≤ L ∧ v = .int .i64 i ∧ Aside0 (IsS48 w wr g L ((R % 2 ^ i : Nat) : Int) 0) ∧ Aside0 (Below w.heap.size w wr)) (fun v _ => L - (intOf v).toNat)
    case atStart =>
      refine ⟨0, by omega, rfl, ⟨?_⟩, ⟨pw_below_drewN HB2.out _⟩⟩
      have e0 : R % 2 ^ 0 = 0 := by omega
      rw [e0]
      exact IsS48.drewN HI.out _
    case round =>
      clear HI HB2
      obtain ⟨i, hi, rfl, HI, HB⟩ := hrel
      by_cases hlt : i < L
      · cases hbit : R.testBit i with
        | true =>
          have t1 : (Go.bits .and .u32 ((R : Int) / 2 ^ i) 1 == 1) = true := by
            rw [bit1 R2, hbit]
            rfl
          have H3 := Aside0.mk (or_bit (show i < 32 by omega) hbit)
          clear hbit
          go_wp2_with fail
          refine (raise_ok g L _ 0 i w _ HI.out HB.out (by omega) (by omega)).mono ?_
          rintro e w3 ⟨rfl, hI, hB, -⟩
          rw [H3.out] at hI
          have HI3 := Aside0.mk hI
          have HB3 := Aside0.mk hB
          clear hI hB HI HB
          go_wp2_with fail
          go_roundw
          case rel => exact ⟨i + 1, by omega, by go_num, HI3, HB3⟩
          case measure =>
            simp [intOf]
            omega
        | false =>
          have t1 : (Go.bits .and .u32 ((R : Int) / 2 ^ i) 1 == 1) = false := by
            rw [bit1 R2, hbit]
            rfl
          have H3 := Aside0.mk (no_bit hbit)
          clear hbit
          go_wp2_with fail
          go_roundw
          case rel => exact ⟨i + 1, by omega, by go_num, ⟨H3.out ▸ HI.out⟩, HB⟩
          case measure =>
            simp [intOf]
            omega
      · have HI2 : Aside0 (IsS48 w wr g L (R : Int) 0) := ⟨by
          have h := HI.out
          rwa [show i = L by omega, Nat.mod_eq_of_lt R1.out] at h⟩
        clear HI
        go_wp2_with fail
        go_loopw [11] (fun v wr => ∃ (i M : Nat), i ≤ l.length ∧ M < 4294967296 ∧ v = .int .i64 i ∧ Aside0 (IsS48 w wr g L R M) ∧ Aside0 (Below w.heap.size w wr)) (fun v _ => l.length - (intOf v).toNat)
        case atStart => exact ⟨0, 0, by omega, by omega, rfl, HI2, HB⟩
        case round =>
          clear HI2 HB
          obtain ⟨j, M, hj, hM1, rfl, HI, HB⟩ := hrel
          by_cases hlt2 : j < l.length
          · obtain ⟨ad, hA2, hx⟩ := Kd.at_int hr.out (j : Int) (by omega) (by omega)
            rw [Int.toNat_natCast] at hx
            obtain ⟨x0, x1⟩ := hl.out _ (rd_in l j hlt2)
            obtain ⟨m, hm⟩ := Int.eq_ofNat_of_zero_le x0
            rw [hm] at hx x1
            clear hm x0
            have m1 : m < 4294967296 := by omega
            have HX := Aside0.mk hx
            have hx4 := (HB.out.cell (World.block_lt_of_cell? w _ hx)).trans hx
            subst hA2
            clear hx x1
            obtain ⟨Q, hQ⟩ : ∃ Q : Nat, m % 2 ^ L = Q := ⟨_, rfl⟩
            have hmm : Q < 4294967296 := by
              rw [← hQ]
              exact Nat.lt_of_le_of_lt (Nat.mod_le _ _) m1
            have HD := Aside0.mk (dn_eq R2 m1)
            have HDm : Aside0 (dn R Q = dn R m) := ⟨by
              rw [← hQ]
              exact dn_mod R1.out L1 m1⟩
            have HMm : Aside0 (Go.bits .and .u32 (m : Int) AL = (Q : Int)) := ⟨by
              rw [hM.out m m1, hQ]⟩
            have HF : Aside0 (pic_Pic_Mask.f (L : Int) (R : Int) (M : Int) (m : Int) = some ((L : Int), (R : Int), (Q : Int))) := ⟨by
              rw [mask_f L1 m1, hQ]⟩
            clear hQ
            go_wp2_with fail
            refine (pic_Pic_Mask.calls g L R M m L R Q w _ HI.out HB.out HF.out).mono ?_
            rintro e w3 ⟨rfl, hI, hB, -⟩
            have HI3 := Aside0.mk hI
            have HB3 := Aside0.mk hB
            clear hI hB HI HB hx4
            rcases next_f L1 R1.out hmm with ⟨hz, hnx⟩ | ⟨hz, n, hn, hnb, hnz, hnx⟩
            · have HN := Aside0.mk hnx
              have HZ := Aside0.mk (HDm.out ▸ hz)
              clear hnx hz
              go_wp2_with fail
              refine (pic_Pic_Next.calls 40 g L R _ _ _ _ _ _ w _ HI3.out HB3.out HN.out).mono ?_
              rintro e w4 ⟨rfl, hI, hB, -⟩
              have hx4 := (hB.cell (World.block_lt_of_cell? w _ HX.out)).trans HX.out
              have HI4 := Aside0.mk hI
              have HB4 := Aside0.mk hB
              have hc1 := cellS48_1 hI.1
              have hc2 := cellS48_2 hI.1
              clear hI hB HI3 HB3
              go_wp2_with fail
              rw [HD.out, HZ.out]
              have e2 : ((Q : Int) != Go.bits .and .u32 (m : Int) AL) = false := by
                rw [HMm.out]
                simp
              go_quiet (first | (go_at_call 12; exact Calls.quiet_of_same (pending_same g (R : Int) _ (by rw [World.cell?_drewN]; exact hc1))) | (go_at_call 14; exact Calls.quiet_of_same (masked_same g (Q : Int) _ (by rw [World.cell?_drewN]; exact hc2))))
              go_wp2_with fail
              go_roundw
              case rel => exact ⟨j + 1, Q, by omega, hmm, by go_num, ⟨IsS48.drewN HI4.out _⟩, ⟨pw_below_drewN HB4.out _⟩⟩
              case measure =>
                simp [intOf]
                omega
            · have HN := Aside0.mk hnx
              rw [HDm.out] at hnb hnz hz
              obtain ⟨D, hD⟩ : ∃ D : Nat, dn R m = D := ⟨_, rfl⟩
              rw [hD] at hnb hnz hz
              have D1 : D < 4294967296 := by
                rw [← hD]
                exact Nat.lt_of_le_of_lt (dn_le R m) R2
              have HD2 : Aside0 (Go.bits .andNot .u32 (R : Int) (m : Int) = (D : Int)) := ⟨by rw [HD.out, hD]⟩
              have f1 : ((D : Int) != 0) = true := by
                rw [bne_iff_ne]
                omega
              have f2 : (Go.bits .and .u32 ((D : Int) / 2 ^ n) 1 == 0) = false := by
                rw [bit1 D1, hnb]
                rfl
              have hpn : 2 ^ n < 4294967296 := Nat.pow_lt_pow_right (a := 2) (by decide) (show n < 32 by omega)
              have hpn0 : 0 < 2 ^ n := Nat.pow_pos (by decide)
              have ea : ((2 : Int) ^ n - 1) % 4294967296 = 2 ^ n - 1 := by
                rw [← pow_cast]
                omega
              have eb : ((2 : Int) ^ n % 4294967296 - 1) % 4294967296 = 2 ^ n - 1 := by
                rw [← pow_cast]
                omega
              have ez : Go.bits .and .u32 (D : Int) (2 ^ n - 1) = 0 := by
                rw [and_mask (by omega) (by omega) n (by omega), ← pow_cast, ← Int.natCast_emod, low_zero hnz]
                rfl
              have f3 : (Go.bits .and .u32 (D : Int) ((2 ^ n - 1) % 4294967296) != 0) = false := by
                rw [ea, ez]
                rfl
              have f4 : (Go.bits .and .u32 (D : Int) ((2 ^ n % 4294967296 - 1) % 4294967296) != 0) = false := by
                rw [eb, ez]
                rfl
              clear hnx hz hnb hnz hD ea eb ez hpn hpn0
              go_wp2_with fail
              refine (pic_Pic_Next.calls 40 g L R _ _ _ _ _ _ w _ HI3.out HB3.out HN.out).mono ?_
              rintro e w4 ⟨rfl, hI, hB, -⟩
              have hx4 := (hB.cell (World.block_lt_of_cell? w _ HX.out)).trans HX.out
              have HI4 := Aside0.mk hI
              have HB4 := Aside0.mk hB
              have hc1 := cellS48_1 hI.1
              have hc2 := cellS48_2 hI.1
              clear hI hB HI3 HB3
              go_wp2_with fail
              rw [HD2.out]
              have e2 : ((Q : Int) != Go.bits .and .u32 (m : Int) AL) = false := by
                rw [HMm.out]
                simp
              go_quiet (first | (go_at_call 12; exact Calls.quiet_of_same (pending_same g (R : Int) _ (by rw [World.cell?_drewN]; exact hc1))) | (go_at_call 14; exact Calls.quiet_of_same (masked_same g (Q : Int) _ (by rw [World.cell?_drewN]; exact hc2))))
              go_wp2_with fail
              go_roundw
              case rel => exact ⟨j + 1, Q, by omega, hmm, by go_num, ⟨IsS48.drewN HI4.out _⟩, ⟨pw_below_drewN HB4.out _⟩⟩
              case measure =>
                simp [intOf]
                omega
          · have HF : Aside0 (pic_Pic_Mask.f (L : Int) (R : Int) (M : Int) ((0 : Nat) : Int) = some ((L : Int), (R : Int), ((0 : Nat) : Int))) := ⟨by
              rw [mask_f L1 (by decide), Nat.zero_mod]⟩
            go_wp2_with fail
            refine (pic_Pic_Mask.calls g L R M 0 L R 0 w _ HI.out HB.out HF.out).mono ?_
            rintro e w3 ⟨rfl, hI, hB, -⟩
            have HI3 := Aside0.mk hI
            have HB3 := Aside0.mk hB
            clear hI hB HI HB
            rcases next_f (M := 0) L1 R1.out (by decide) with ⟨hz, hnx⟩ | ⟨hz, n, hn, hnb, hnz, hnx⟩
            · have HN := Aside0.mk hnx
              rw [dn_zero R2] at hz
              have f1 : ((R : Int) != 0) = false := by
                rw [bne_eq_false_iff_eq]
                omega
              clear hnx hz
              go_wp2_with fail
              refine (pic_Pic_Next.calls 40 g L R 0 _ _ _ _ _ w _ HI3.out HB3.out HN.out).mono ?_
              rintro e w4 ⟨rfl, hI, hB, -⟩
              have HB4 := Aside0.mk hB
              clear hI hB HI3 HB3
              go_wp2_with fail
              go_ret
              exact ⟨rfl, by repeat (first | exact HB4.out | apply pw_below_drewN | apply below_drew)⟩
            · have HN := Aside0.mk hnx
              rw [dn_zero R2] at hz
              have f1 : ((R : Int) != 0) = true := by
                rw [bne_iff_ne]
                omega
              clear hnx hz hnb hnz
              go_wp2_with fail
              refine (pic_Pic_Next.calls 40 g L R 0 _ _ _ _ _ w _ HI3.out HB3.out HN.out).mono ?_
              rintro e w4 ⟨rfl, hI, hB, -⟩
              have HB4 := Aside0.mk hB
              clear hI hB HI3 HB3
              go_wp2_with fail
              go_ret
              exact ⟨rfl, by repeat (first | exact HB4.out | apply pw_below_drewN | apply below_drew)⟩
theorem walk (lines0 raised0 : Int) (a2 : Option Addr) (len2 cap2 : Nat) (z2 : List Int) (w : World) (_h0 : (Lit.int .i64 lines0).wf = true) (h1 : (Lit.int .u32 raised0).wf = true)
    (w2 : (a2 = none ∧ len2 = 0 ∧ cap2 = 0 ∧ z2 = []) ∨ ∃ x, a2 = some x ∧ len2 ≤ cap2 ∧ cap2 ≤ maxLen ∧ z2.length = cap2 ∧ (∀ i, i < z2.length → w.cell? (x.add i) = some (.int .u32 (z2.getD i 0))) ∧ ∀ n ∈ z2, (Lit.int .u32 n).wf = true) (y2 : len2 * 4 ≤ 140737488351232) :
    Calls Try.prog 4 #[.int .i64 lines0, .int .u32 raised0, .slice a2 len2 cap2] w fun e w' => e = .returned (.bool true) ∧ Below w.heap.size w w' := by
  obtain ⟨l, rfl, hr, hm, hw, _⟩ := ReadsInt.ofRowC w2
  obtain ⟨r0, r1⟩ := u32_bd h1
  obtain ⟨L, L0, L1, hL⟩ : ∃ L : Nat, 1 ≤ L ∧ L ≤ 32 ∧ wrap64 (1 + wrap64 ((IntKind.u64.wrap lines0).tmod 32)) = (L : Int) := by
    refine ⟨(1 + (IntKind.u64.wrap lines0) % 32).toNat, ?_⟩
    have h0 : 0 ≤ IntKind.u64.wrap lines0 := by
      rw [u64w]
      omega
    rw [Int.tmod_eq_emod_of_nonneg h0, w64 (x := IntKind.u64.wrap lines0 % 32) (by omega) (by omega), w64 (by omega) (by omega)]
    omega
  have hp : 2 ^ L ≤ 4294967296 := Nat.pow_le_pow_right (n := 2) (by decide) L1
  have hp0 : 0 < 2 ^ L := Nat.pow_pos (by decide)
  obtain ⟨r, rfl⟩ := Int.eq_ofNat_of_zero_le r0
  have key : ∀ m : Nat, m < 4294967296 → Go.bits .and .u32 (m : Int) (2 ^ L - 1) = ((m % 2 ^ L : Nat) : Int) := fun m hm => by
    rw [and_mask (by omega) (by omega) L L1, ← pow_cast]
    rfl
  have hR1 : r % 2 ^ L < 2 ^ L := Nat.mod_lt _ hp0
  refine first lines0 r L (r % 2 ^ L) a2 cap2 l w ⟨hL⟩ L0 L1 (2 ^ L - 1) ⟨?_⟩ ⟨key r (by omega)⟩ ⟨hR1⟩ (by omega) ⟨Kd.C_of_reads (d := (0 : Int)) (h1 := fun _ => rfl) hr⟩ ⟨fun x hx => u32_bd (hw x hx)⟩ (by omega) ⟨key⟩
  rw [← pow_cast]
  omega
end Go.Proofs.Ytoedliifhbpdnaa.HandMasks
