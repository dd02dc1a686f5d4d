/- Numbers are bytes, the lowest first: what both Puts and both Gets answer. -/
import Derived.Test.YthhhebdcccfgkaaPWordBytesx1
import Derived.Test.YthhhebdcccfgkaaAid
namespace Go.Proofs.Ythhhebdcccfgkaa.Pure
set_option linter.unusedVariables false
set_option linter.unusedSimpArgs false
open Go.RowKit Go.Proofs.Ythhhebdcccfgkaa.PWordBytes Go.Proofs.YthhhebdcccfgkaaW.PrintWords Go.Proofs.YthhhebdcccfgkaaW.PrintLast Go.Proofs.Ythhhebdcccfgkaa.Aid

/-- The number of bytes, the lowest first. -/
def val : List Int → Int
  | [] => 0
  | x :: t => x + 256 * val t
/-- The lowest m bytes of a number. -/
def bs (n : Int) (m : Nat) : List Int := (List.range m).map fun i => n / 256 ^ i % 256
theorem bs_succ (n : Int) (m : Nat) : bs n (m + 1) = bs n m ++ [n / 256 ^ m % 256] := by
  unfold bs
  rw [List.range_succ, List.map_append]
  rfl
theorem bs_length (n : Int) (m : Nat) : (bs n m).length = m := by simp [bs]
theorem val_bound : ∀ (l : List Int), (∀ x ∈ l, 0 ≤ x ∧ x < 256) → 0 ≤ val l ∧ val l < 256 ^ l.length
  | [], _ => by simp [val]
  | x :: t, h => by
    have hx := h x (by simp)
    have ht := val_bound t fun y hy => h y (by simp [hy])
    simp only [val, List.length_cons, Int.pow_succ]
    omega
theorem val_snoc : ∀ (l : List Int) (x : Int), val (l ++ [x]) = val l + x * 256 ^ l.length
  | [], x => by simp [val]
  | y :: t, x => by
    simp only [List.cons_append, val, val_snoc t x, List.length_cons, Int.pow_succ]
    rw [Int.mul_add, ← Int.mul_assoc x, Int.mul_comm _ (256 : Int)]
    omega
theorem take_snoc' (l : List Int) (i : Nat) (h : i < l.length) : l.take (i + 1) = l.take i ++ [rd l (i : Int)] := by
  rw [List.take_succ_eq_append_getElem h]
  simp [rd, h]
theorem drop_cons' (l : List Int) (i : Nat) (h : i < l.length) : l.drop i = rd l (i : Int) :: l.drop (i + 1) := by
  rw [List.drop_eq_getElem_cons h]
  simp [rd, h]
theorem rd_mem (l : List Int) (i : Nat) (h : i < l.length) : rd l (i : Int) ∈ l := by
  have : rd l (i : Int) = l[i] := by simp [rd, h]
  rw [this]
  exact List.getElem_mem h
theorem or_join {x b : Int} {i : Nat} (hi : i ≤ 7) (h0 : 0 ≤ x) (h1 : x < 256 ^ i) (b0 : 0 ≤ b) (b1 : b < 256) :
    Go.bits .or .u64 x (shl .u64 (IntKind.u64.wrap b) (wrap64 (8 * (i : Int)))) = x + b * 256 ^ i := by
  have hp : (0 : Int) < 256 ^ i := Int.pow_pos (by decide)
  have hle : (256 : Int) ^ i ≤ 72057594037927936 := by
    have : 256 ^ i ≤ 256 ^ 7 := Nat.pow_le_pow_right (n := 256) (by decide) hi
    have e : ((256 ^ i : Nat) : Int) = (256 : Int) ^ i := by rw [Int.natCast_pow]; rfl
    rw [← e]
    have : 256 ^ i ≤ 72057594037927936 := this
    omega
  have hb : b * 256 ^ i ≤ 255 * 256 ^ i := Int.mul_le_mul_of_nonneg_right (by omega) (by omega)
  have hb0 : 0 ≤ b * 256 ^ i := Int.mul_nonneg b0 (by omega)
  have e1 : shl .u64 (IntKind.u64.wrap b) (wrap64 (8 * (i : Int))) = b * 256 ^ i := by
    unfold shl
    have em : min (wrap64 (8 * (i : Int))).toNat IntKind.u64.bits = 8 * i := by
      rw [w64 (by omega) (by omega)]
      simp only [IntKind.bits]
      omega
    have ep : (2 : Int) ^ (8 * i) = 256 ^ i := by
      rw [Int.pow_mul]
      rfl
    rw [em, ep, u64w, u64w, Int.emod_eq_of_lt (a := b) (by omega) (by omega), Int.emod_eq_of_lt (by omega) (by omega)]
  rw [e1, u64_or _ _ h0 (by omega) hb0 (by omega)]
  have e2 : (b * 256 ^ i).toNat = b.toNat * 256 ^ i := by
    have : b = (b.toNat : Int) := by omega
    have e : ((256 ^ i : Nat) : Int) = (256 : Int) ^ i := by rw [Int.natCast_pow]; rfl
    rw [this, ← e, ← Int.natCast_mul, Int.toNat_natCast, Int.toNat_natCast]
  have e3 : 256 ^ i = 2 ^ (8 * i) := by
    rw [Nat.pow_mul]
  have hx : x.toNat < 2 ^ (8 * i) := by
    rw [← e3]
    have e : ((256 ^ i : Nat) : Int) = (256 : Int) ^ i := by rw [Int.natCast_pow]; rfl
    omega
  rw [Nat.or_comm, nat_join (8 * i) _ _ (by rw [e2, e3, Nat.mul_mod_left]) hx]
  omega
theorem put_prog {n : Int} (h0 : 0 ≤ n) (h1 : n < 18446744073709551616) {m : Nat} (hm : m ≤ 8) (d : Nat) : ∀ (k i : Nat), i + d = m → d < k →
    word_Put.l0 k n (bs n i) (m : Int) (i : Int) = some (bs n m) := by
  induction d with
  | zero =>
    intro k i hi hk
    obtain ⟨k, rfl⟩ : ∃ j, k = j + 1 := ⟨k - 1, by omega⟩
    simp only [word_Put.l0]
    rw [if_neg (by omega)]
    congr
  | succ d ih =>
    intro k i hi hk
    obtain ⟨k, rfl⟩ : ∃ j, k = j + 1 := ⟨k - 1, by omega⟩
    simp only [word_Put.l0]
    have e8 : wrap64 (8 * (i : Int)) = 8 * (i : Int) := w64 (by omega) (by omega)
    rw [if_pos (by omega), e8, if_pos (by omega), if_pos (by rw [bs_length]; omega), w64 (by omega) (by omega)]
    have e : shr .u64 n (8 * (i : Int)) = n / 256 ^ i := by
      unfold shr
      have em : min (8 * (i : Int)).toNat IntKind.u64.bits = 8 * i := by
        simp only [IntKind.bits]
        omega
      have ep : (2 : Int) ^ (8 * i) = 256 ^ i := by
        rw [Int.pow_mul]
        rfl
      rw [em, ep]
    rw [e, ← bs_succ]
    exact ih k (i + 1) (by omega) (by omega)
theorem put_ref {n : Int} (h0 : 0 ≤ n) (h1 : n < 18446744073709551616) {s : Int} (hs : s < 9223372036854775808) {m : Nat} (hm : m ≤ 8) (hsm : m = 8 ∧ 8 ≤ s ∨ (m : Int) = s ∨ m = 0 ∧ s ≤ 0) (d : Nat) : ∀ (k i : Nat), i + d = m → d < k →
    bulkheadref01_Put.l0 k (n / 256 ^ i) s (bs n i) (i : Int) = some (bs n m) := by
  induction d with
  | zero =>
    intro k i hi hk
    obtain ⟨k, rfl⟩ : ∃ j, k = j + 1 := ⟨k - 1, by omega⟩
    simp only [bulkheadref01_Put.l0]
    obtain rfl : i = m := by omega
    by_cases h : (i : Int) < s
    · rw [if_pos h, if_neg (by omega)]
    · rw [if_neg h]
  | succ d ih =>
    intro k i hi hk
    obtain ⟨k, rfl⟩ : ∃ j, k = j + 1 := ⟨k - 1, by omega⟩
    simp only [bulkheadref01_Put.l0]
    have hp : (0 : Int) < 256 ^ i := Int.pow_pos (by decide)
    have q0 : 0 ≤ n / 256 ^ i := Int.ediv_nonneg h0 (by omega)
    have q1 : n / 256 ^ i ≤ n := Int.ediv_le_self _ h0
    rw [if_pos (by omega), if_pos (by omega), if_pos (by rw [bs_length]; omega), w64 (by omega) (by omega), Int.tmod_eq_emod_of_nonneg q0, Int.tdiv_eq_ediv_of_nonneg q0, u64w]
    have e1 : n / 256 ^ i % 256 % 256 = n / 256 ^ i % 256 := by omega
    have e2 : n / 256 ^ i / 256 % 18446744073709551616 = n / 256 ^ (i + 1) := by
      rw [Int.pow_succ, Int.ediv_ediv_of_nonneg (by omega)]
      rw [← Int.ediv_ediv_of_nonneg (by omega)]
      omega
    rw [e1, e2, ← bs_succ]
    exact ih k (i + 1) (by omega) (by omega)
theorem puts {n s : Int} (h0 : 0 ≤ n) (h1 : n < 18446744073709551616) (s0 : -9223372036854775808 ≤ s) (s1 : s < 9223372036854775808) {k : Nat} (hk : 9 < k) : ∃ m, m ≤ 8 ∧ word_Put.f k n s = some (bs n m) ∧ bulkheadref01_Put.f k n s = some (bs n m) := by
  have hb : bs n 0 = [] := rfl
  by_cases hneg : s ≤ 0
  · refine ⟨0, by omega, ?_, ?_⟩
    · unfold word_Put.f
      obtain ⟨k, rfl⟩ : ∃ j, k = j + 1 := ⟨k - 1, by omega⟩
      simp only [word_Put.l0]
      have : mn s 8 = s := by
        unfold mn
        rw [if_neg (by omega)]
      rw [this, if_neg (by omega), hb]
    · unfold bulkheadref01_Put.f
      have := put_ref h0 h1 s1 (m := 0) (by omega) (by omega) 0 k 0 (by omega) (by omega)
      simpa [hb] using this
  · by_cases h8 : 8 ≤ s
    · refine ⟨8, by omega, ?_, ?_⟩
      · unfold word_Put.f
        have : mn s 8 = ((8 : Nat) : Int) := by
          unfold mn
          split <;> omega
        rw [this, ← hb]
        exact put_prog h0 h1 (m := 8) (by omega) 8 k 0 (by omega) (by omega)
      · unfold bulkheadref01_Put.f
        have := put_ref h0 h1 s1 (m := 8) (by omega) (by omega) 8 k 0 (by omega) (by omega)
        simpa [hb] using this
    · obtain ⟨m, rfl⟩ := Int.eq_ofNat_of_zero_le (show 0 ≤ s by omega)
      refine ⟨m, by omega, ?_, ?_⟩
      · unfold word_Put.f
        have : mn (m : Int) 8 = (m : Int) := by
          unfold mn
          rw [if_neg (by omega)]
        rw [this, ← hb]
        exact put_prog h0 h1 (m := m) (by omega) m k 0 (by omega) (by omega)
      · unfold bulkheadref01_Put.f
        have := put_ref h0 h1 s1 (m := m) (by omega) (by omega) m k 0 (by omega) (by omega)
        simpa [hb] using this
theorem get_prog {l : List Int} (hl : ∀ x ∈ l, 0 ≤ x ∧ x < 256) {m : Nat} (hm : m ≤ 8) (hml : m ≤ l.length) (d : Nat) : ∀ (k i : Nat), i + d = m → d < k →
    word_Get.l0 k l (val (l.take i)) (m : Int) (i : Int) = some (val (l.take m)) := by
  induction d with
  | zero =>
    intro k i hi hk
    obtain ⟨k, rfl⟩ : ∃ j, k = j + 1 := ⟨k - 1, by omega⟩
    simp only [word_Get.l0]
    rw [if_neg (by omega)]
    congr
  | succ d ih =>
    intro k i hi hk
    obtain ⟨k, rfl⟩ : ∃ j, k = j + 1 := ⟨k - 1, by omega⟩
    simp only [word_Get.l0]
    have hb := hl _ (rd_mem l i (by omega))
    have hv := val_bound (l.take i) fun x hx => hl x (List.mem_of_mem_take hx)
    have hlen : (l.take i).length = i := by simp; omega
    rw [hlen] at hv
    rw [if_pos (by omega), if_pos (by omega), if_pos (by omega), if_pos (by rw [w64 (by omega) (by omega)]; omega), or_join (by omega) hv.1 hv.2 hb.1 hb.2, w64 (x := (i : Int) + 1) (by omega) (by omega)]
    have e := val_snoc (l.take i) (rd l (i : Int))
    rw [← take_snoc' l i (by omega), hlen] at e
    rw [← e]
    exact ih k (i + 1) (by omega) (by omega)
theorem get_ref {l : List Int} (hl : ∀ x ∈ l, 0 ≤ x ∧ x < 256) {m : Nat} (hm : m ≤ 8) (hml : m ≤ l.length) (d : Nat) : ∀ (k : Nat), d ≤ m → d < k →
    bulkheadref01_Get.l0 k l (val ((l.take m).drop d)) ((d : Int) - 1) = some (val (l.take m)) := by
  induction d with
  | zero =>
    intro k hd hk
    obtain ⟨k, rfl⟩ : ∃ j, k = j + 1 := ⟨k - 1, by omega⟩
    simp only [bulkheadref01_Get.l0]
    rw [if_neg (by omega)]
    simp
  | succ d ih =>
    intro k hd hk
    obtain ⟨k, rfl⟩ : ∃ j, k = j + 1 := ⟨k - 1, by omega⟩
    simp only [bulkheadref01_Get.l0]
    have ed : ((d + 1 : Nat) : Int) - 1 = (d : Int) := by omega
    have hb := hl _ (rd_mem l d (by omega))
    have hlen : (l.take m).length = m := by simp; omega
    have hr : rd (l.take m) (d : Int) = rd l (d : Int) := by
      simp [rd, List.getElem?_take, show d < m by omega]
    have e := drop_cons' (l.take m) d (by omega)
    have hv := val_bound ((l.take m).drop d) fun x hx => hl x (List.mem_of_mem_take (List.mem_of_mem_drop hx))
    have hle : (256 : Int) ^ ((l.take m).drop d).length ≤ 18446744073709551616 := by
      have hh : ((l.take m).drop d).length ≤ 8 := by
        rw [List.length_drop, hlen]
        omega
      have : 256 ^ ((l.take m).drop d).length ≤ 256 ^ 8 := Nat.pow_le_pow_right (n := 256) (by decide) hh
      have e : ((256 ^ ((l.take m).drop d).length : Nat) : Int) = (256 : Int) ^ ((l.take m).drop d).length := by rw [Int.natCast_pow]; rfl
      rw [← e]
      have : 256 ^ ((l.take m).drop d).length ≤ 18446744073709551616 := this
      omega
    rw [ed, if_pos (by omega), if_pos (by omega), if_pos (by omega)]
    have hv2 : val ((l.take m).drop d) = rd l (d : Int) + 256 * val ((l.take m).drop (d + 1)) := by
      rw [e, hr]
      rfl
    have h3 := val_bound ((l.take m).drop (d + 1)) fun x hx => hl x (List.mem_of_mem_take (List.mem_of_mem_drop hx))
    have e4 : IntKind.u64.wrap (IntKind.u64.wrap (val ((l.take m).drop (d + 1)) * 256) + IntKind.u64.wrap (rd l (d : Int))) = val ((l.take m).drop d) := by
      rw [u64w, u64w, u64w, hv2]
      omega
    rw [e4, w64 (by omega) (by omega)]
    exact ih k (by omega) (by omega)
theorem gets {l : List Int} (hl : ∀ x ∈ l, 0 ≤ x ∧ x < 256) (hlen : l.length ≤ 140737488351232) {k : Nat} (hk : 9 < k) : word_Get.f k l = some (val (l.take 8)) ∧ bulkheadref01_Get.f k l = some (val (l.take 8)) := by
  have key : ∃ m : Nat, m ≤ 8 ∧ m ≤ l.length ∧ l.take m = l.take 8 ∧ mn (l.length : Int) 8 = (m : Int) ∧ mn 8 (l.length : Int) = (m : Int) := by
    by_cases h : l.length ≤ 8
    · refine ⟨l.length, h, Nat.le_refl _, ?_, ?_, ?_⟩
      · rw [List.take_of_length_le (Nat.le_refl _), List.take_of_length_le h]
      · unfold mn
        split <;> omega
      · unfold mn
        split <;> omega
    · refine ⟨8, Nat.le_refl _, by omega, rfl, ?_, ?_⟩
      · unfold mn
        split <;> omega
      · unfold mn
        split <;> omega
  obtain ⟨m, hm, hml, et, e1, e2⟩ := key
  constructor
  · unfold word_Get.f
    rw [e1, ← et]
    have := get_prog hl hm hml m k 0 (by omega) (by omega)
    simpa [val] using this
  · unfold bulkheadref01_Get.f
    rw [e2, ← et]
    have := get_ref hl hm hml m k (by omega) (by omega)
    have hd : (l.take m).drop m = [] := by simp
    rw [hd] at this
    simpa [val] using this
end Go.Proofs.Ythhhebdcccfgkaa.Pure
