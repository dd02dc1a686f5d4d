/- The document's controller: two rows of yes and no behind a pointer; what each of its functions does. -/
import Derived.Test.YtoedliifhbpdnaaPPicPlaysx1
import Derived.Test.YtoedliifhbpdnaaAid
import Derived.RegionTactic
import Derived.ChangeAlike
namespace Go.Proofs.Ytoedliifhbpdnaa.PicRef
open Go.RowKit Go.Proofs.Ytoedliifhbpdnaa.PPicPlays Go.Proofs.YtoedliifhbpdnaaW.PrintWords Go.Proofs.YtoedliifhbpdnaaW.PrintLast Go.Proofs.YtoedliifhbpdnaaW.PrintMore Go.Proofs.Ytoedliifhbpdnaa.Aid
set_option linter.unusedVariables false
set_option linter.unusedSimpArgs false

/-- The lines of R that are not in m. -/
def dn (R m : Nat) : Nat := R &&& (4294967295 - m)
theorem lt_of_bit {R i : Nat} (hR : R < 4294967296) (h : R.testBit i = true) : i < 32 := by
  refine Decidable.byContradiction fun hn => ?_
  have h2 : R < 2 ^ i := Nat.lt_of_lt_of_le hR (Nat.pow_le_pow_right (n := 2) (by decide) (show 32 ≤ i by omega))
  rw [Nat.testBit_lt_two_pow h2] at h
  cases h
theorem dn_bit {R m : Nat} (hR : R < 4294967296) (hm : m < 4294967296) (i : Nat) : (dn R m).testBit i = (R.testBit i && !m.testBit i) := by
  have h := Nat.testBit_two_pow_sub_succ (n := 32) hm i
  have e : 2 ^ 32 - (m + 1) = 4294967295 - m := by omega
  rw [e] at h
  unfold dn
  rw [Nat.testBit_and, h]
  cases hb : R.testBit i with
  | false => rfl
  | true =>
    have := lt_of_bit hR hb
    simp [this]
theorem dn_eq {R m : Nat} (hR : R < 4294967296) (hm : m < 4294967296) : Go.bits .andNot .u32 (R : Int) (m : Int) = ((dn R m : Nat) : Int) := u32_andNot_nat R m hR hm
theorem dn_le (R m : Nat) : dn R m ≤ R := Nat.and_le_left
theorem mod_bit (m L i : Nat) : (m % 2 ^ L).testBit i = (decide (i < L) && m.testBit i) := Nat.testBit_mod_two_pow m L i
theorem dn_mod {R m L : Nat} (hR : R < 2 ^ L) (hL : L ≤ 32) (hm : m < 4294967296) : dn R (m % 2 ^ L) = dn R m := by
  have hp : 2 ^ L ≤ 4294967296 := Nat.pow_le_pow_right (n := 2) (by decide) hL
  have h1 : m % 2 ^ L < 4294967296 := Nat.lt_of_le_of_lt (Nat.mod_le _ _) hm
  refine Nat.eq_of_testBit_eq fun i => ?_
  rw [dn_bit (by omega) h1, dn_bit (by omega) hm, mod_bit]
  by_cases hi : i < L
  · simp [hi]
  · have h2 : R < 2 ^ i := Nat.lt_of_lt_of_le hR (Nat.pow_le_pow_right (n := 2) (by decide) (by omega))
    rw [Nat.testBit_lt_two_pow h2]
    rfl
theorem bit1 {D : Nat} (hD : D < 4294967296) (i : Nat) : Go.bits .and .u32 ((D : Int) / 2 ^ i) 1 = (((D.testBit i).toNat : Nat) : Int) := by
  have h : (D : Int) / 2 ^ i = ((D / 2 ^ i : Nat) : Int) := by
    rw [← pow_cast]
    rfl
  have hle : D / 2 ^ i ≤ D := Nat.div_le_self _ _
  rw [h]
  have h2 := u32_and_nat (D / 2 ^ i) 1 (by omega) (by omega)
  rw [nat_mask1] at h2
  rw [Nat.toNat_testBit]
  exact h2
theorem or_bit {R i : Nat} (hi : i < 32) (hb : R.testBit i = true) :
    Go.bits .or .u32 ((R % 2 ^ i : Nat) : Int) (2 ^ i % 4294967296) = ((R % 2 ^ (i + 1) : Nat) : Int) := by
  have hpi : 2 ^ i < 4294967296 := Nat.pow_lt_pow_right (a := 2) (by decide) hi
  have h1 : R % 2 ^ i < 2 ^ i := Nat.mod_lt _ (Nat.pow_pos (by decide))
  have e1 : (2 : Int) ^ i % 4294967296 = ((2 ^ i : Nat) : Int) := by
    rw [← pow_cast]
    omega
  rw [e1, u32_or_nat _ _ (by omega) hpi, Nat.or_comm, nat_join i (2 ^ i) (R % 2 ^ i) (Nat.mod_self _) h1, Nat.mod_pow_succ]
  have h2 := Nat.toNat_testBit R i
  rw [hb] at h2
  have h3 : R / 2 ^ i % 2 = 1 := h2.symm
  rw [h3]
  congr 1
  omega
theorem no_bit {R i : Nat} (hb : R.testBit i = false) : R % 2 ^ i = R % 2 ^ (i + 1) := by
  have h2 := Nat.toNat_testBit R i
  rw [hb] at h2
  have h3 : R / 2 ^ i % 2 = 0 := h2.symm
  rw [Nat.mod_pow_succ, h3]
  omega
theorem low_zero {D n : Nat} (h : ∀ j, j < n → D.testBit j = false) : D % 2 ^ n = 0 := by
  refine Nat.eq_of_testBit_eq fun i => ?_
  rw [mod_bit, Nat.zero_testBit]
  by_cases hi : i < n
  · simp [hi, h i hi]
  · simp [hi]
theorem next_loop {L R M : Nat} (hL : L ≤ 32) (hR : R < 2 ^ L) (hM : M < 4294967296) (d : Nat) : ∀ (k i : Nat), i + d = L → (∀ j, j < i → (dn R M).testBit j = false) → d < k →
    (dn R M = 0 ∧ pic_Pic_Next.l0 k (L : Int) (i : Int) (L : Int) (R : Int) (M : Int) = some (0, false, (L : Int), (R : Int), (M : Int))) ∨
    (dn R M ≠ 0 ∧ ∃ n : Nat, n < L ∧ (dn R M).testBit n = true ∧ (∀ j, j < n → (dn R M).testBit j = false) ∧ pic_Pic_Next.l0 k (L : Int) (i : Int) (L : Int) (R : Int) (M : Int) = some ((n : Int), true, (L : Int), (R : Int), (M : Int))) := by
  have hp : 2 ^ L ≤ 4294967296 := Nat.pow_le_pow_right (n := 2) (by decide) hL
  have hD := dn_le R M
  induction d with
  | zero =>
    intro k i hi hz hk
    obtain ⟨k, rfl⟩ : ∃ j, k = j + 1 := ⟨k - 1, by omega⟩
    left
    simp only [pic_Pic_Next.l0]
    rw [if_neg (by omega)]
    refine ⟨?_, rfl⟩
    have h1 := low_zero hz
    rw [show i = L by omega, Nat.mod_eq_of_lt (by omega)] at h1
    exact h1
  | succ d ih =>
    intro k i hi hz hk
    obtain ⟨k, rfl⟩ : ∃ j, k = j + 1 := ⟨k - 1, by omega⟩
    simp only [pic_Pic_Next.l0]
    have e : shr .u32 (Go.bits .andNot .u32 (R : Int) (M : Int)) (i : Int) = ((dn R M : Nat) : Int) / 2 ^ i := by
      rw [dn_eq (by omega) hM]
      unfold shr
      have em : min (i : Int).toNat IntKind.u32.bits = i := by
        simp only [IntKind.bits]
        omega
      rw [em]
    rw [if_pos (by omega), if_pos (by omega), e, bit1 (by omega)]
    cases hb : (dn R M).testBit i with
    | true =>
      right
      refine ⟨fun h0 => ?_, i, by omega, hb, hz, ?_⟩
      · rw [h0, Nat.zero_testBit] at hb
        cases hb
      · rw [if_pos (by decide)]
    | false =>
      rw [if_neg (by decide), w64 (by omega) (by omega)]
      refine ih k (i + 1) (by omega) (fun j hj => ?_) (by omega)
      rcases Nat.lt_or_ge j i with h | h
      · exact hz j h
      · rw [show j = i by omega]
        exact hb
theorem next_f {L R M : Nat} (hL : L ≤ 32) (hR : R < 2 ^ L) (hM : M < 4294967296) :
    (dn R M = 0 ∧ pic_Pic_Next.f 40 (L : Int) (R : Int) (M : Int) = some (0, false, (L : Int), (R : Int), (M : Int))) ∨
    (dn R M ≠ 0 ∧ ∃ n : Nat, n < L ∧ (dn R M).testBit n = true ∧ (∀ j, j < n → (dn R M).testBit j = false) ∧ pic_Pic_Next.f 40 (L : Int) (R : Int) (M : Int) = some ((n : Int), true, (L : Int), (R : Int), (M : Int))) :=
  next_loop hL hR hM L 40 0 (by omega) (fun j hj => absurd hj (by omega)) (by omega)
theorem mask_f {L R M m : Nat} (hL : L ≤ 32) (hm : m < 4294967296) : pic_Pic_Mask.f (L : Int) (R : Int) (M : Int) (m : Int) = some ((L : Int), (R : Int), ((m % 2 ^ L : Nat) : Int)) := by
  unfold pic_Pic_Mask.f
  rw [if_pos (by omega)]
  have em : min (L : Int).toNat IntKind.u32.bits = L := by
    simp only [IntKind.bits]
    omega
  have hp : 2 ^ L ≤ 4294967296 := Nat.pow_le_pow_right (n := 2) (by decide) hL
  have hp0 : 0 < 2 ^ L := Nat.pow_pos (by decide)
  have e1 : (shl .u32 1 (L : Int) - 1) % 4294967296 = 2 ^ L - 1 := by
    unfold shl
    rw [em, u32w, Int.one_mul, ← pow_cast]
    omega
  rw [e1, and_mask (by omega) (by omega) L hL, ← pow_cast]
  rfl
theorem dn_zero {R : Nat} (hR : R < 4294967296) : dn R 0 = R := by
  refine Nat.eq_of_testBit_eq fun i => ?_
  rw [dn_bit hR (by decide)]
  simp
/-- A row of L yes or no. -/
def rowb (p : Nat → Bool) (L : Nat) : Array Value := ((List.range L).map fun i => Value.bool (p i)).toArray
theorem rowb_get (p : Nat → Bool) {i L : Nat} (h : i < L) : (rowb p L)[i]? = some (.bool (p i)) := by
  simp [rowb, h]
theorem rowb_set (p : Nat → Bool) (i L : Nat) (b : Bool) : (rowb p L).setIfInBounds i (.bool b) = rowb (fun j => if j = i then b else p j) L := by
  apply Array.ext'
  simp only [rowb, Array.toList_setIfInBounds]
  apply List.ext_getElem?
  intro j
  rw [List.getElem?_set]
  simp only [List.getElem?_map, List.length_map, List.length_range]
  by_cases hj : j < L
  · rw [List.getElem?_range hj]
    by_cases hi : i = j
    · subst hi
      simp [hj]
    · have hn : ¬ j = i := fun h => hi h.symm
      simp [hi, hn]
  · rw [List.getElem?_eq_none (by simpa using hj)]
    simp [hj]
    intro h
    omega
theorem rowb_congr {p q : Nat → Bool} {L : Nat} (h : ∀ i, i < L → p i = q i) : rowb p L = rowb q L := by
  simp only [rowb]
  congr 1
  refine List.map_congr_left fun i hi => ?_
  rw [h i (List.mem_range.1 hi)]
/-- The document's controller at block g, its rows at o and f. -/
def IsM (w0 W : World) (g o f L : Nat) (p q : Nat → Bool) : Prop :=
  W.heap[g]? = some (.cells #[.slice (some ⟨o, 0, none⟩) L L, .slice (some ⟨f, 0, none⟩) L L] 52 (0, 0)) ∧ W.heap[o]? = some (.cells (rowb p L) 4 (0, 0)) ∧ W.heap[f]? = some (.cells (rowb q L) 4 (0, 0)) ∧ w0.heap.size ≤ g ∧ w0.heap.size ≤ o ∧ w0.heap.size ≤ f ∧ o ≠ f
theorem IsM.c0 {w0 W : World} {g o f L : Nat} {p q : Nat → Bool} (h : IsM w0 W g o f L p q) : W.cell? ⟨g, 0, none⟩ = some (.slice (some ⟨o, 0, none⟩) L L) := (blk_cell h.1 0).trans rfl
theorem IsM.c1 {w0 W : World} {g o f L : Nat} {p q : Nat → Bool} (h : IsM w0 W g o f L p q) : W.cell? ⟨g, 1, none⟩ = some (.slice (some ⟨f, 0, none⟩) L L) := (blk_cell h.1 1).trans rfl
theorem IsM.on {w0 W : World} {g o f L : Nat} {p q : Nat → Bool} (h : IsM w0 W g o f L p q) {i : Nat} (hi : i < L) : W.cell? ⟨o, i, none⟩ = some (.bool (p i)) := (blk_cell h.2.1 i).trans (rowb_get p hi)
theorem IsM.off {w0 W : World} {g o f L : Nat} {p q : Nat → Bool} (h : IsM w0 W g o f L p q) {i : Nat} (hi : i < L) : W.cell? ⟨f, i, none⟩ = some (.bool (q i)) := (blk_cell h.2.2.1 i).trans (rowb_get q hi)
theorem IsM.keep {w0 W W' : World} {g o f L k : Nat} {p q : Nat → Bool} (h : IsM w0 W g o f L p q) (hk : KeepBut W W' k none) (n1 : g ≠ k) (n2 : o ≠ k) (n3 : f ≠ k) : IsM w0 W' g o f L p q :=
  ⟨hk.blk h.1 n1 (by simp), hk.blk h.2.1 n2 (by simp), hk.blk h.2.2.1 n3 (by simp), h.2.2.2⟩
theorem IsM.below {w0 W W' : World} {g o f L : Nat} {p q : Nat → Bool} (h : IsM w0 W g o f L p q) (hb : Below W.heap.size W W') : IsM w0 W' g o f L p q :=
  ⟨blk_below h.1 hb, blk_below h.2.1 hb, blk_below h.2.2.1 hb, h.2.2.2⟩
theorem IsM.base {w0 w1 W : World} {g o f L : Nat} {p q : Nat → Bool} (h : IsM w1 W g o f L p q) (hs : w0.heap.size ≤ w1.heap.size) : IsM w0 W g o f L p q :=
  ⟨h.1, h.2.1, h.2.2.1, Nat.le_trans hs h.2.2.2.1, Nat.le_trans hs h.2.2.2.2.1, Nat.le_trans hs h.2.2.2.2.2.1, h.2.2.2.2.2.2⟩
theorem IsM.go {w0 W : World} {g o f L : Nat} {p q : Nat → Bool} (h : IsM w0 W g o f L p q) : g ≠ o := blk_ne h.1 h.2.1 (by decide)
theorem IsM.gf {w0 W : World} {g o f L : Nat} {p q : Nat → Bool} (h : IsM w0 W g o f L p q) : g ≠ f := blk_ne h.1 h.2.2.1 (by decide)
theorem IsM.setOn {w0 W : World} {g o f L : Nat} {p q : Nat → Bool} (h : IsM w0 W g o f L p q) (i : Nat) (b : Bool) : IsM w0 (W.setCell ⟨o, i, none⟩ (.bool b)) g o f L (fun j => if j = i then b else p j) q :=
  ⟨blk_far h.1 h.go _, blk_put h.2.1 i _ (rowb_set p i L b), blk_far h.2.2.1 (fun e => h.2.2.2.2.2.2 e.symm) _, h.2.2.2⟩
theorem IsM.setOff {w0 W : World} {g o f L : Nat} {p q : Nat → Bool} (h : IsM w0 W g o f L p q) (i : Nat) (b : Bool) : IsM w0 (W.setCell ⟨f, i, none⟩ (.bool b)) g o f L p (fun j => if j = i then b else q j) :=
  ⟨blk_far h.1 h.gf _, blk_far h.2.1 h.2.2.2.2.2.2 _, blk_put h.2.2.1 i _ (rowb_set q i L b), h.2.2.2⟩
theorem IsM.congr {w0 W : World} {g o f L : Nat} {p q p' q' : Nat → Bool} (h : IsM w0 W g o f L p q) (hp : ∀ i, i < L → p i = p' i) (hq : ∀ i, i < L → q i = q' i) : IsM w0 W g o f L p' q' := by
  refine ⟨h.1, ?_, ?_, h.2.2.2⟩
  · rw [← rowb_congr hp]
    exact h.2.1
  · rw [← rowb_congr hq]
    exact h.2.2.1
set_option maxHeartbeats 800000 in
theorem rhas_calls (g o f L : Nat) (p q : Nat → Bool) (n : Int) (w0 w : World) (hI : IsM w0 w g o f L p q) :
    Calls Try.prog 22 #[.pointer (some ⟨g, 0, none⟩), .int .i64 n] w fun e w' => e = .returned (.bool (decide (0 ≤ n) && decide (n < (L : Int)))) ∧ w' = w := by
  have hc0 := hI.c0
  cases h : decide (0 ≤ n) with
  | true =>
    go_enter Try.func22, Try.ntmps22
    go_wp2
    go_ret
    exact ⟨rfl, rfl⟩
  | false =>
    go_enter Try.func22, Try.ntmps22
    go_wp2
    go_ret
    exact ⟨rfl, rfl⟩
set_option maxHeartbeats 800000 in
theorem rraise_no (g o f L : Nat) (p q : Nat → Bool) (n : Int) (w0 w : World) (hI : IsM w0 w g o f L p q) (hn : (decide (0 ≤ n) && decide (n < (L : Int))) = false) :
    Calls Try.prog 16 #[.pointer (some ⟨g, 0, none⟩), .int .i64 n] w fun e w' => e = .returned (.int .i64 2) ∧ w' = w := by
  have HN := Aside0.mk hn
  clear hn
  go_enter Try.func16, Try.ntmps16
  go_wp2_with fail
  refine (rhas_calls g o f L p q n w0 _ hI).mono ?_
  rintro e w' ⟨rfl, rfl⟩
  rw [HN.out]
  go_wp2_with fail
  go_ret
  exact ⟨rfl, rfl⟩
set_option maxHeartbeats 800000 in
theorem rack_no (g o f L : Nat) (p q : Nat → Bool) (n : Int) (w0 w : World) (hI : IsM w0 w g o f L p q) (hn : (decide (0 ≤ n) && decide (n < (L : Int))) = false) :
    Calls Try.prog 17 #[.pointer (some ⟨g, 0, none⟩), .int .i64 n] w fun e w' => e = .returned (.int .i64 2) ∧ w' = w := by
  have HN := Aside0.mk hn
  clear hn
  go_enter Try.func17, Try.ntmps17
  go_wp2_with fail
  refine (rhas_calls g o f L p q n w0 _ hI).mono ?_
  rintro e w' ⟨rfl, rfl⟩
  rw [HN.out]
  go_wp2_with fail
  go_ret
  exact ⟨rfl, rfl⟩
theorem in_rng {n L : Nat} (h : n < L) : (decide ((0 : Int) ≤ (n : Int)) && decide ((n : Int) < (L : Int))) = true := by
  simp [h]
set_option maxHeartbeats 800000 in
theorem rraise_ok (g o f L n : Nat) (p q : Nat → Bool) (w0 w : World) (hI : IsM w0 w g o f L p q) (h1 : n < L) (h2 : L ≤ 32) :
    Calls Try.prog 16 #[.pointer (some ⟨g, 0, none⟩), .int .i64 n] w fun e w' => e = .returned (.int .i64 0) ∧ w' = w.setCell ⟨o, n, none⟩ (.bool true) := by
  have HI := Aside0.mk hI
  have hc0 := hI.c0
  have hv := hI.on h1
  have hf := blk_frozen hI.2.1 n
  have hlt : decide ((n : Int) < (L : Int)) = true := decide_eq_true (by omega)
  clear hI
  go_enter Try.func16, Try.ntmps16
  go_wp2_with fail
  refine (rhas_calls g o f L p q n w0 _ HI.out).mono ?_
  rintro e w' ⟨rfl, rfl⟩
  rw [in_rng h1]
  go_wp2_with fail
  go_ret
  exact ⟨rfl, rfl⟩
set_option maxHeartbeats 800000 in
theorem rack_ok (g o f L n : Nat) (p q : Nat → Bool) (w0 w : World) (hI : IsM w0 w g o f L p q) (h1 : n < L) (h2 : L ≤ 32) (hp : p n = true) :
    Calls Try.prog 17 #[.pointer (some ⟨g, 0, none⟩), .int .i64 n] w fun e w' => e = .returned (.int .i64 0) ∧ w' = w.setCell ⟨o, n, none⟩ (.bool false) := by
  have HI := Aside0.mk hI
  have hc0 := hI.c0
  have hv := hI.on h1
  rw [hp] at hv
  have hf := blk_frozen hI.2.1 n
  have hlt : decide ((n : Int) < (L : Int)) = true := decide_eq_true (by omega)
  clear hI hp
  go_enter Try.func17, Try.ntmps17
  go_wp2_with fail
  refine (rhas_calls g o f L p q n w0 _ HI.out).mono ?_
  rintro e w' ⟨rfl, rfl⟩
  rw [in_rng h1]
  go_wp2_with fail
  go_ret
  exact ⟨rfl, rfl⟩
set_option maxHeartbeats 800000 in
theorem rack_not (g o f L n : Nat) (p q : Nat → Bool) (w0 w : World) (hI : IsM w0 w g o f L p q) (h1 : n < L) (h2 : L ≤ 32) (hp : p n = false) :
    Calls Try.prog 17 #[.pointer (some ⟨g, 0, none⟩), .int .i64 n] w fun e w' => e = .returned (.int .i64 8) ∧ w' = w := by
  have HI := Aside0.mk hI
  have hc0 := hI.c0
  have hv := hI.on h1
  rw [hp] at hv
  have hlt : decide ((n : Int) < (L : Int)) = true := decide_eq_true (by omega)
  clear hI hp
  go_enter Try.func17, Try.ntmps17
  go_wp2_with fail
  refine (rhas_calls g o f L p q n w0 _ HI.out).mono ?_
  rintro e w' ⟨rfl, rfl⟩
  rw [in_rng h1]
  go_wp2_with fail
  go_ret
  exact ⟨rfl, rfl⟩
theorem mod0 (R : Nat) : R % 2 ^ 0 = 0 := by simp [Nat.mod_one]
set_option maxHeartbeats 800000 in
theorem set_calls (o L R : Nat) (p : Nat → Bool) (w : World) (ho : w.heap[o]? = some (.cells (rowb p L) 4 (0, 0))) (hL : L ≤ 32) (hR : R < 2 ^ L) (hp : ∀ i, i < L → p i = R.testBit i) :
    Calls Try.prog 27 #[.slice (some ⟨o, 0, none⟩) L L] w fun e w' => e = .returned (.int .u32 R) ∧ ∃ m, w' = w.drewN m := by
  have HO := Aside0.mk ho
  have HP := Aside0.mk hp
  have HR := Aside0.mk hR
  clear ho hp hR
  go_enter Try.func27, Try.ntmps27
  go_wp2_with fail
  go_loopw [3, 4] (fun v i wr => ∃ k : Nat, k ≤ L ∧ v = .int .u32 ((R % 2 ^ k : Nat) : Int) ∧ i = .int .i64 k ∧ Aside0 (∃ m, wr = w.drewN m)) (fun _ i _ => L - (intOf i).toNat)
  case atStart => exact ⟨0, Nat.zero_le _, by rw [mod0]; rfl, rfl, ⟨0, rfl⟩⟩
  case round =>
    obtain ⟨k, hk, rfl, rfl, HM⟩ := hrel
    have HH : Aside0 (wr.heap[o]? = some (.cells (rowb p L) 4 (0, 0))) := ⟨by obtain ⟨m, rfl⟩ := HM.out; exact HO.out⟩
    by_cases c : k < L
    · have hc := (blk_cell HH.out k).trans (rowb_get p c)
      rw [HP.out k c] at hc
      have c0 : decide ((k : Int) < (L : Int)) = true := decide_eq_true (by omega)
      cases hb : R.testBit k with
      | true =>
        rw [hb] at hc
        have H3 := Aside0.mk (or_bit (R := R) (show k < 32 by omega) hb)
        clear hb
        go_wp2_with fail
        go_roundw
        case rel => exact ⟨k + 1, by omega, by rw [← H3.out]; first | rfl | (congr 2), by go_num, HM⟩
        case measure =>
          simp [intOf]
          omega
      | false =>
        rw [hb] at hc
        have H3 := Aside0.mk (no_bit (R := R) hb)
        clear hb
        go_wp2_with fail
        go_roundw
        case rel => exact ⟨k + 1, by omega, by rw [← H3.out], by go_num, HM⟩
        case measure =>
          simp [intOf]
          omega
    · have c0 : decide ((k : Int) < (L : Int)) = false := decide_eq_false (by omega)
      have ek : k = L := by omega
      subst ek
      rw [Nat.mod_eq_of_lt HR.out]
      clear hk c
      go_wp2_with fail
      go_ret
      exact ⟨rfl, HM.out⟩
set_option maxHeartbeats 800000 in
theorem rpending_calls (g o f L R : Nat) (p q : Nat → Bool) (w0 w : World) (hI : IsM w0 w g o f L p q) (hL : L ≤ 32) (hR : R < 2 ^ L) (hp : ∀ i, i < L → p i = R.testBit i) :
    Calls Try.prog 25 #[.pointer (some ⟨g, 0, none⟩)] w fun e w' => e = .returned (.int .u32 R) ∧ ∃ m, w' = w.drewN m := by
  have hc0 := hI.c0
  go_enter Try.func25, Try.ntmps25
  go_wp2_with fail
  refine (set_calls o L R p _ hI.2.1 hL hR hp).mono ?_
  rintro e w' ⟨rfl, HM⟩
  have HM := Aside0.mk HM
  go_wp2_with fail
  go_ret
  exact ⟨rfl, HM.out⟩
set_option maxHeartbeats 800000 in
theorem rmasked_calls (g o f L R : Nat) (p q : Nat → Bool) (w0 w : World) (hI : IsM w0 w g o f L p q) (hL : L ≤ 32) (hR : R < 2 ^ L) (hp : ∀ i, i < L → q i = R.testBit i) :
    Calls Try.prog 26 #[.pointer (some ⟨g, 0, none⟩)] w fun e w' => e = .returned (.int .u32 R) ∧ ∃ m, w' = w.drewN m := by
  have hc1 := hI.c1
  go_enter Try.func26, Try.ntmps26
  go_wp2_with fail
  refine (set_calls f L R q _ hI.2.2.1 hL hR hp).mono ?_
  rintro e w' ⟨rfl, HM⟩
  have HM := Aside0.mk HM
  go_wp2_with fail
  go_ret
  exact ⟨rfl, HM.out⟩
/-- The least line that counts, or none. -/
def NextIs (L : Nat) (h : Nat → Bool) (n : Int) (b : Bool) : Prop :=
  (b = true ∧ ∃ m : Nat, n = m ∧ m < L ∧ h m = true ∧ ∀ j, j < m → h j = false) ∨ (b = false ∧ n = 0 ∧ ∀ j, j < L → h j = false)
set_option maxHeartbeats 800000 in
theorem rnext_calls (g o f L : Nat) (p q : Nat → Bool) (w0 w : World) (hI : IsM w0 w g o f L p q) (hL : L ≤ 32) :
    Calls Try.prog 23 #[.pointer (some ⟨g, 0, none⟩)] w fun e w' => ∃ n b, e = .returned (.tuple #[.int .i64 n, .bool b]) ∧ NextIs L (fun i => p i && !q i) n b ∧ ∃ m, w' = w.drewN m := by
  have HI := Aside0.mk hI
  clear hI
  go_enter Try.func23, Try.ntmps23
  go_wp2_with fail
  go_loopw [4] (fun i wr => ∃ k : Nat, k ≤ L ∧ i = .int .i64 k ∧ Aside0 (∀ j, j < k → (p j && !q j) = false) ∧ Aside0 (∃ m, wr = w.drewN m)) (fun i _ => L - (intOf i).toNat)
  case atStart => exact ⟨0, Nat.zero_le _, rfl, ⟨fun j hj => absurd hj (by omega)⟩, ⟨0, rfl⟩⟩
  case round =>
    obtain ⟨k, hk, rfl, HZ, HM⟩ := hrel
    have HH : Aside0 (IsM w0 wr g o f L p q) := ⟨by obtain ⟨m, rfl⟩ := HM.out; exact HI.out⟩
    have hc0 := HH.out.c0
    have hc1 := HH.out.c1
    by_cases c : k < L
    · have hon := HH.out.on c
      have hoff := HH.out.off c
      have c0 : decide ((k : Int) < (L : Int)) = true := decide_eq_true (by omega)
      cases hp : p k with
      | true =>
        rw [hp] at hon
        cases hq : q k with
        | true =>
          rw [hq] at hoff
          have HZ2 := Aside0.mk (show ∀ j, j < k + 1 → (p j && !q j) = false from fun j hj => by
            rcases Nat.lt_or_ge j k with h | h
            · exact HZ.out j h
            · rw [show j = k by omega, hp, hq]
              rfl)
          clear hp hq
          go_wp2_with fail
          go_roundw
          case rel => exact ⟨k + 1, by omega, by go_num, HZ2, HM⟩
          case measure =>
            simp [intOf]
            omega
        | false =>
          rw [hq] at hoff
          have HN : Aside0 (NextIs L (fun i => p i && !q i) (k : Int) true) := ⟨.inl ⟨rfl, k, rfl, c, by simp [hp, hq], HZ.out⟩⟩
          clear hp hq
          go_wp2_with fail
          go_ret2
          exact ⟨_, _, rfl, HN.out, HM.out⟩
      | false =>
        rw [hp] at hon
        have HZ2 := Aside0.mk (show ∀ j, j < k + 1 → (p j && !q j) = false from fun j hj => by
          rcases Nat.lt_or_ge j k with h | h
          · exact HZ.out j h
          · rw [show j = k by omega, hp]
            rfl)
        clear hp
        go_wp2_with fail
        go_roundw
        case rel => exact ⟨k + 1, by omega, by go_num, HZ2, HM⟩
        case measure =>
          simp [intOf]
          omega
    · have c0 : decide ((k : Int) < (L : Int)) = false := decide_eq_false (by omega)
      have HN : Aside0 (NextIs L (fun i => p i && !q i) 0 false) := ⟨.inr ⟨rfl, rfl, fun j hj => HZ.out j (by omega)⟩⟩
      go_wp2_with fail
      go_ret2
      exact ⟨_, _, rfl, HN.out, HM.out⟩
end Go.Proofs.Ytoedliifhbpdnaa.PicRef
