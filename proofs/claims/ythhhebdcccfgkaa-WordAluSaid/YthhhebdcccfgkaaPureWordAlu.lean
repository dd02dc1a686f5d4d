/- Every operation answers the word, or the error, of the chapter. No condition. -/
import Derived.Test.YthhhebdcccfgkaaPWordAlux5
import Derived.Test.YthhhebdcccfgkaaAid
namespace Go.Proofs.Ythhhebdcccfgkaa.Pure
open Go.RowKit Go.Proofs.Ythhhebdcccfgkaa.PWordAlu Go.Proofs.YthhhebdcccfgkaaW.PrintWords Go.Proofs.YthhhebdcccfgkaaW.PrintLast Go.Proofs.Ythhhebdcccfgkaa.Aid

/-- What the chapter says of an operation: the word, and the error. -/
def aluS (op a b : Int) : Int × Int :=
  if op = 2 ∨ op = 18 then ((a + b) % 4294967296, 0)
  else if op = 3 then ((a - b) % 4294967296, 0)
  else if op = 4 then ((a * b) % 4294967296, 0)
  else if op = 5 then ((wrap32 a * wrap32 b / 4294967296) % 4294967296, 0)
  else if op = 6 then (if b = 0 then (0, 10) else ((wrap64 (Int.tdiv (wrap32 a) (wrap32 b))) % 4294967296, 0))
  else if op = 7 then (if b = 0 then (0, 10) else (a / b, 0))
  else if op = 8 then (if b = 0 then (0, 10) else ((Int.tmod (wrap32 a) (wrap32 b)) % 4294967296, 0))
  else if op = 9 then (if b = 0 then (0, 10) else (a % b, 0))
  else if op = 10 ∨ op = 19 then (Go.bits .and .u32 a b, 0)
  else if op = 11 ∨ op = 20 then (Go.bits .or .u32 a b, 0)
  else if op = 12 ∨ op = 21 then (Go.bits .xor .u32 a b, 0)
  else if op = 13 ∨ op = 22 then ((a * 2 ^ (b % 32).toNat) % 4294967296, 0)
  else if op = 14 ∨ op = 23 then (a / 2 ^ (b % 32).toNat, 0)
  else if op = 15 ∨ op = 24 then ((wrap32 a / 2 ^ (b % 32).toNat) % 4294967296, 0)
  else if op = 16 ∨ op = 25 then (if wrap32 a < wrap32 b then 1 else 0, 0)
  else if op = 17 ∨ op = 26 then (if a < b then 1 else 0, 0)
  else if op = 27 then ((b * 65536) % 4294967296, 0)
  else (0, 5)
theorem op_cases (op : Int) : op = 2 ∨ op = 3 ∨ op = 4 ∨ op = 5 ∨ op = 6 ∨ op = 7 ∨ op = 8 ∨ op = 9 ∨ op = 10 ∨ op = 11 ∨ op = 12 ∨ op = 13 ∨ op = 14 ∨ op = 15 ∨ op = 16 ∨ op = 17 ∨ op = 18 ∨ op = 19 ∨ op = 20 ∨ op = 21 ∨ op = 22 ∨ op = 23 ∨ op = 24 ∨ op = 25 ∨ op = 26 ∨ op = 27 ∨ (op < 2 ∨ 27 < op) := by omega
theorem udiv_bd {a b : Int} (a0 : 0 ≤ a) (b0 : 0 ≤ b) : 0 ≤ a / b ∧ a / b ≤ a := ⟨Int.ediv_nonneg a0 b0, Int.ediv_le_self _ a0⟩
theorem div_prog {op a b : Int} (hop : op = 6 ∨ op = 7 ∨ op = 8 ∨ op = 9) (a0 : 0 ≤ a) (a1 : a < 4294967296) (b0 : 0 ≤ b) (b1 : b < 4294967296) : word_divide.f op a b = some (aluS op a b) := by
  have ha := w32_bd a
  have hb := w32_bd b
  unfold word_divide.f aluS
  by_cases hz : b = 0
  · rcases hop with rfl | rfl | rfl | rfl <;> simp [hz]
  · have hz2 : ¬ wrap32 b = 0 := fun h => hz ((w32_zero b0 b1).1 h)
    have hd := udiv_bd a0 b0
    have hm0 := Int.emod_nonneg a hz
    have hm1 := Int.emod_lt_of_pos a (show 0 < b by omega)
    rw [w64 (x := wrap32 a) (by omega) (by omega), w64 (x := wrap32 b) (by omega) (by omega), Int.tdiv_eq_ediv_of_nonneg a0, Int.tmod_eq_emod_of_nonneg a0]
    have e7 : a / b % 4294967296 = a / b := by omega
    rcases hop with rfl | rfl | rfl | rfl <;> simp [hz, hz2, e7]
theorem n_of {b : Int} (b0 : 0 ≤ b) (b1 : b < 4294967296) (k : IntKind) (hk : 32 ≤ k.bits) : min (Go.bits .and .u32 b 31).toNat k.bits = (b % 32).toNat := by
  rw [and31 b0 b1]
  omega
theorem alu_prog {op a b : Int} (a0 : 0 ≤ a) (a1 : a < 4294967296) (b0 : 0 ≤ b) (b1 : b < 4294967296) (k : Nat) : word_Alu.f (k + 12) op a b = some (aluS op a b) := by
  have ha := w32_bd a
  have hb := w32_bd b
  have hp := mul_bd ha.1 ha.2 hb.1 hb.2
  have hn : 0 ≤ Go.bits .and .u32 b 31 := by
    rw [and31 b0 b1]
    omega
  have n1 := n_of b0 b1 .u32 (by decide)
  have n2 := n_of b0 b1 .i32 (by decide)
  have e5 : IntKind.u64.wrap (wrap64 (wrap64 (wrap32 a) * wrap64 (wrap32 b))) / 4294967296 % 4294967296 = wrap32 a * wrap32 b / 4294967296 % 4294967296 := by
    rw [w64 (x := wrap32 a) (by omega) (by omega), w64 (x := wrap32 b) (by omega) (by omega), w64 (x := wrap32 a * wrap32 b) (by omega) (by omega), u64w]
    omega
  rcases op_cases op with rfl | rfl | rfl | rfl | rfl | rfl | rfl | rfl | rfl | rfl | rfl | rfl | rfl | rfl | rfl | rfl | rfl | rfl | rfl | rfl | rfl | rfl | rfl | rfl | rfl | rfl | h
  case _ => simp [word_Alu.f, word_Alu.j0, aluS]
  case _ => simp [word_Alu.f, word_Alu.j0, aluS]
  case _ => simp [word_Alu.f, word_Alu.j0, aluS]
  case _ => simp [word_Alu.f, word_Alu.j0, aluS, e5]
  case _ => simp [word_Alu.f, word_Alu.j0, word_Alu.j1, div_prog (op := 6) (by simp) a0 a1 b0 b1]
  case _ => simp [word_Alu.f, word_Alu.j0, word_Alu.j1, div_prog (op := 7) (by simp) a0 a1 b0 b1]
  case _ => simp [word_Alu.f, word_Alu.j0, word_Alu.j1, div_prog (op := 8) (by simp) a0 a1 b0 b1]
  case _ => simp [word_Alu.f, word_Alu.j0, word_Alu.j1, div_prog (op := 9) (by simp) a0 a1 b0 b1]
  case _ => simp [word_Alu.f, word_Alu.j0, word_Alu.j1, word_Alu.j2, aluS]
  case _ => simp [word_Alu.f, word_Alu.j0, word_Alu.j1, word_Alu.j2, word_Alu.j3, aluS]
  case _ => simp [word_Alu.f, word_Alu.j0, word_Alu.j1, word_Alu.j2, word_Alu.j3, word_Alu.j4, aluS]
  case _ => simp [word_Alu.f, word_Alu.j0, word_Alu.j1, word_Alu.j2, word_Alu.j3, word_Alu.j4, word_Alu.j5, aluS, hn, shl, n1, u32w]
  case _ => simp [word_Alu.f, word_Alu.j0, word_Alu.j1, word_Alu.j2, word_Alu.j3, word_Alu.j4, word_Alu.j5, word_Alu.j6, aluS, hn, shr, n1]
  case _ => simp [word_Alu.f, word_Alu.j0, word_Alu.j1, word_Alu.j2, word_Alu.j3, word_Alu.j4, word_Alu.j5, word_Alu.j6, word_Alu.j7, aluS, hn, shr, n2]
  case _ =>
    simp [word_Alu.f, word_Alu.j0, word_Alu.j1, word_Alu.j2, word_Alu.j3, word_Alu.j4, word_Alu.j5, word_Alu.j6, word_Alu.j7, word_Alu.j8, word_flag.f, aluS]
    split <;> simp
  case _ =>
    simp [word_Alu.f, word_Alu.j0, word_Alu.j1, word_Alu.j2, word_Alu.j3, word_Alu.j4, word_Alu.j5, word_Alu.j6, word_Alu.j7, word_Alu.j8, word_Alu.j9, word_flag.f, aluS]
    split <;> simp
  case _ => simp [word_Alu.f, word_Alu.j0, aluS]
  case _ => simp [word_Alu.f, word_Alu.j0, word_Alu.j1, word_Alu.j2, aluS]
  case _ => simp [word_Alu.f, word_Alu.j0, word_Alu.j1, word_Alu.j2, word_Alu.j3, aluS]
  case _ => simp [word_Alu.f, word_Alu.j0, word_Alu.j1, word_Alu.j2, word_Alu.j3, word_Alu.j4, aluS]
  case _ => simp [word_Alu.f, word_Alu.j0, word_Alu.j1, word_Alu.j2, word_Alu.j3, word_Alu.j4, word_Alu.j5, aluS, hn, shl, n1, u32w]
  case _ => simp [word_Alu.f, word_Alu.j0, word_Alu.j1, word_Alu.j2, word_Alu.j3, word_Alu.j4, word_Alu.j5, word_Alu.j6, aluS, hn, shr, n1]
  case _ => simp [word_Alu.f, word_Alu.j0, word_Alu.j1, word_Alu.j2, word_Alu.j3, word_Alu.j4, word_Alu.j5, word_Alu.j6, word_Alu.j7, aluS, hn, shr, n2]
  case _ =>
    simp [word_Alu.f, word_Alu.j0, word_Alu.j1, word_Alu.j2, word_Alu.j3, word_Alu.j4, word_Alu.j5, word_Alu.j6, word_Alu.j7, word_Alu.j8, word_flag.f, aluS]
    split <;> simp
  case _ =>
    simp [word_Alu.f, word_Alu.j0, word_Alu.j1, word_Alu.j2, word_Alu.j3, word_Alu.j4, word_Alu.j5, word_Alu.j6, word_Alu.j7, word_Alu.j8, word_Alu.j9, word_flag.f, aluS]
    split <;> simp
  case _ => simp [word_Alu.f, word_Alu.j0, word_Alu.j1, word_Alu.j2, word_Alu.j3, word_Alu.j4, word_Alu.j5, word_Alu.j6, word_Alu.j7, word_Alu.j8, word_Alu.j9, aluS]
  case _ =>
    have ne : ∀ c : Int, 2 ≤ c → c ≤ 27 → (op = c) = False := fun c h1 h2 => by
      simp
      omega
    simp [word_Alu.f, word_Alu.j0, word_Alu.j1, word_Alu.j2, word_Alu.j3, word_Alu.j4, word_Alu.j5, word_Alu.j6, word_Alu.j7, word_Alu.j8, word_Alu.j9, aluS, ne]
theorem word_eq (x : Int) : bulkheadref01_Word.f x = some (x % 4294967296) := by
  unfold bulkheadref01_Word.f
  rw [and_low]
theorem signed_eq {a : Int} (h0 : 0 ≤ a) (h1 : a < 4294967296) : bulkheadref01_Signed.f a = some (wrap32 a) := by
  unfold bulkheadref01_Signed.f
  rw [w64 (by omega) (by omega)]
  split
  · rw [w64 (by omega) (by omega), w32_of]
    congr 1
    omega
  · rw [w32_of]
    congr 1
    omega
theorem div_ref {op a b : Int} (hop : op = 6 ∨ op = 7 ∨ op = 8 ∨ op = 9) (a0 : 0 ≤ a) (a1 : a < 4294967296) (b0 : 0 ≤ b) (b1 : b < 4294967296) (hz : b ≠ 0) : bulkheadref01_divide.f op a b = some (aluS op a b).1 ∧ (aluS op a b).2 = 0 := by
  have ha := w32_bd a
  have hb := w32_bd b
  have hz2 : ¬ wrap32 b = 0 := fun h => hz ((w32_zero b0 b1).1 h)
  have hd := udiv_bd a0 b0
  have hm0 := Int.emod_nonneg a hz
  have hm1 := Int.emod_lt_of_pos a (show 0 < b by omega)
  unfold bulkheadref01_divide.f aluS
  rw [signed_eq a0 a1, signed_eq b0 b1]
  rw [w64 (x := a) (by omega) (by omega), w64 (x := b) (by omega) (by omega), Int.tdiv_eq_ediv_of_nonneg a0, Int.tmod_eq_emod_of_nonneg a0]
  have e7 : wrap64 (a / b) % 4294967296 = a / b := by
    rw [w64 (by omega) (by omega)]
    omega
  have e9 : a % b % 4294967296 = a % b := by omega
  rcases hop with rfl | rfl | rfl | rfl <;> simp [hz, hz2, e7, e9, word_eq]
theorem sar_loop (n : Nat) (d : Nat) : ∀ (k i : Nat) (x : Int), -2147483648 ≤ x → x ≤ 2147483647 → i + d = n → n ≤ 31 → d < k →
    bulkheadref01_shift.l0 k (n : Int) x (i : Int) = some (x / 2 ^ d % 4294967296) := by
  induction d with
  | zero =>
    intro k i x x0 x1 hi hn hk
    obtain ⟨k, rfl⟩ : ∃ j, k = j + 1 := ⟨k - 1, by omega⟩
    simp only [bulkheadref01_shift.l0]
    rw [if_neg (by omega), word_eq]
    simp
  | succ d ih =>
    intro k i x x0 x1 hi hn hk
    obtain ⟨k, rfl⟩ : ∃ j, k = j + 1 := ⟨k - 1, by omega⟩
    simp only [bulkheadref01_shift.l0]
    rw [if_pos (by omega), w64 (x := (i : Int) + 1) (by omega) (by omega)]
    have h := ih k (i + 1) (x / 2) (by omega) (by omega) (by omega) hn (by omega)
    have e : x / 2 ^ (d + 1) = x / 2 / 2 ^ d := by
      rw [Int.pow_succ, Int.mul_comm, Int.ediv_ediv_of_nonneg (by omega)]
    rw [e, ← h]
    have hh := Int.tmod_add_mul_tdiv x 2
    have hq : Int.tmod x 2 = 0 ∨ Int.tmod x 2 = 1 ∨ Int.tmod x 2 = -1 := by
      have := Int.tmod_lt_of_pos x (show (0 : Int) < 2 by decide)
      have := Int.lt_tmod_of_pos x (show (0 : Int) < 2 by decide)
      omega
    by_cases ht : Int.tmod x 2 = 0
    · rw [if_pos ht, w64 (by omega) (by omega)]
      have : Int.tdiv x 2 = x / 2 := by omega
      rw [this]
      rfl
    · rw [if_neg ht, w64 (x := x - 1) (by omega) (by omega)]
      have h2 := Int.tmod_add_mul_tdiv (x - 1) 2
      have hq2 : Int.tmod (x - 1) 2 < 2 ∧ -2 < Int.tmod (x - 1) 2 := ⟨Int.tmod_lt_of_pos _ (by decide), Int.lt_tmod_of_pos _ (by decide)⟩
      have : Int.tdiv (x - 1) 2 = x / 2 := by omega
      rw [this, w64 (by omega) (by omega)]
      rfl
theorem shift_ref {op a b : Int} (hop : op = 13 ∨ op = 22 ∨ op = 14 ∨ op = 23 ∨ op = 15 ∨ op = 24) (a0 : 0 ≤ a) (a1 : a < 4294967296) (b0 : 0 ≤ b) (k : Nat) :
    bulkheadref01_shift.f (k + 40) op a b = some (aluS op a b).1 ∧ (aluS op a b).2 = 0 := by
  have ha := w32_bd a
  have ek : wrap64 (Int.tmod b 32) = b % 32 := by
    rw [Int.tmod_eq_emod_of_nonneg b0, w64 (by omega) (by omega)]
  have hm0 : 0 ≤ b % 32 := by omega
  have en : min (b % 32).toNat IntKind.i64.bits = (b % 32).toNat := by
    simp only [IntKind.bits]
    omega
  have e1 : IntKind.i64.wrap (a * 2 ^ (b % 32).toNat) % 4294967296 = a * 2 ^ (b % 32).toNat % 4294967296 := by
    rw [IntWalk.i64_left, w64_of]
    omega
  have hp : (0 : Int) < 2 ^ (b % 32).toNat := Int.pow_pos (by decide)
  have hq0 : 0 ≤ a / 2 ^ (b % 32).toNat := Int.ediv_nonneg a0 (by omega)
  have hq1 : a / 2 ^ (b % 32).toNat ≤ a := Int.ediv_le_self _ a0
  have e2 : a / 2 ^ (b % 32).toNat % 4294967296 = a / 2 ^ (b % 32).toNat := by omega
  have hl := sar_loop (b % 32).toNat (b % 32).toNat (k + 39) 0 (wrap32 a) ha.1 ha.2 (by omega) (by omega) (by omega)
  rw [Int.toNat_of_nonneg hm0] at hl
  unfold bulkheadref01_shift.f
  rw [signed_eq a0 a1, ek]
  have ea : wrap64 a = a := w64 (by omega) (by omega)
  rcases hop with rfl | rfl | rfl | rfl | rfl | rfl
  case _ => simp [bulkheadref01_shift.j0, aluS, hm0, shl, en, e1, ea, word_eq]
  case _ => simp [bulkheadref01_shift.j0, aluS, hm0, shl, en, e1, ea, word_eq]
  case _ => simp [bulkheadref01_shift.j0, aluS, hm0, shr, en, e2, ea, word_eq]
  case _ => simp [bulkheadref01_shift.j0, aluS, hm0, shr, en, e2, ea, word_eq]
  case _ => simpa [bulkheadref01_shift.j0, aluS] using hl
  case _ => simpa [bulkheadref01_shift.j0, aluS] using hl
theorem alu_ref {op a b : Int} (a0 : 0 ≤ a) (a1 : a < 4294967296) (b0 : 0 ≤ b) (b1 : b < 4294967296) (k : Nat) : bulkheadref01_Alu.f (k + 50) op a b = some (aluS op a b) := by
  have ha := w32_bd a
  have hb := w32_bd b
  have hp := mul_bd ha.1 ha.2 hb.1 hb.2
  have ab := umul_bd a0 a1 b0 b1
  have e2 : wrap64 (wrap32 a + wrap32 b) % 4294967296 = (a + b) % 4294967296 := by
    rw [w64 (by omega) (by omega), w32_of, w32_of]
    omega
  have e3 : wrap64 (wrap32 a - wrap32 b) % 4294967296 = (a - b) % 4294967296 := by
    rw [w64 (by omega) (by omega), w32_of, w32_of]
    omega
  have e4 : Int.tmod (IntKind.u64.wrap (IntKind.u64.wrap a * IntKind.u64.wrap b)) 4294967296 % 4294967296 = a * b % 4294967296 := by
    rw [u64w a, u64w b, Int.emod_eq_of_lt (a := a) (by omega) (by omega), Int.emod_eq_of_lt (a := b) (by omega) (by omega), u64w, Int.tmod_eq_emod_of_nonneg (by omega)]
    omega
  have e5 : wrap64 (Int.tdiv (wrap64 (wrap64 (wrap32 a * wrap32 b) - Go.bits .and .i64 (wrap64 (wrap32 a * wrap32 b)) 4294967295)) 4294967296) % 4294967296 = wrap32 a * wrap32 b / 4294967296 % 4294967296 := by
    rw [w64 (x := wrap32 a * wrap32 b) (by omega) (by omega), and_low']
    generalize wrap32 a * wrap32 b = p at *
    have : wrap64 (p - p % 4294967296) = p / 4294967296 * 4294967296 := by
      rw [w64 (by omega) (by omega)]
      omega
    rw [this, Int.mul_tdiv_cancel _ (by decide), w64 (by omega) (by omega)]
  have e27 : Int.tmod b 65536 * 65536 % 4294967296 = b * 65536 % 4294967296 := by
    rw [Int.tmod_eq_emod_of_nonneg b0]
    omega
  unfold bulkheadref01_Alu.f
  rw [signed_eq a0 a1, signed_eq b0 b1]
  simp only [Option.bind_some]
  have hdiv : ∀ op, op = 6 ∨ op = 7 ∨ op = 8 ∨ op = 9 → (if b = 0 then some ((0 : Int), (10 : Int)) else (bulkheadref01_divide.f op a b).bind fun t => some (t, 0)) = some (aluS op a b) := by
    intro op h
    by_cases hz : b = 0
    · rw [if_pos hz]
      rcases h with rfl | rfl | rfl | rfl <;> simp [aluS, hz]
    · obtain ⟨h1, h2⟩ := div_ref h a0 a1 b0 b1 hz
      rw [if_neg hz, h1]
      simp only [Option.bind_some]
      rw [← h2]
  have hsh : ∀ op, op = 13 ∨ op = 22 ∨ op = 14 ∨ op = 23 ∨ op = 15 ∨ op = 24 → ((bulkheadref01_shift.f (k + 44) op a b).bind fun t => some (t, (0 : Int))) = some (aluS op a b) := by
    intro op h
    obtain ⟨h1, h2⟩ := shift_ref h a0 a1 b0 (k + 4)
    rw [h1]
    simp only [Option.bind_some]
    rw [← h2]
  rcases op_cases op with rfl | rfl | rfl | rfl | rfl | rfl | rfl | rfl | rfl | rfl | rfl | rfl | rfl | rfl | rfl | rfl | rfl | rfl | rfl | rfl | rfl | rfl | rfl | rfl | rfl | rfl | h
  case _ => simp [bulkheadref01_Alu.j0, aluS, word_eq, e2]
  case _ => simp [bulkheadref01_Alu.j0, aluS, word_eq, e3]
  case _ => simp [bulkheadref01_Alu.j0, aluS, e4]
  case _ => simp [bulkheadref01_Alu.j0, aluS, word_eq, e5]
  case _ => simpa [bulkheadref01_Alu.j0, bulkheadref01_Alu.j1] using hdiv 6 (by simp)
  case _ => simpa [bulkheadref01_Alu.j0, bulkheadref01_Alu.j1] using hdiv 7 (by simp)
  case _ => simpa [bulkheadref01_Alu.j0, bulkheadref01_Alu.j1] using hdiv 8 (by simp)
  case _ => simpa [bulkheadref01_Alu.j0, bulkheadref01_Alu.j1] using hdiv 9 (by simp)
  case _ => simp [bulkheadref01_Alu.j0, bulkheadref01_Alu.j1, bulkheadref01_Alu.j2, aluS]
  case _ => simp [bulkheadref01_Alu.j0, bulkheadref01_Alu.j1, bulkheadref01_Alu.j2, bulkheadref01_Alu.j3, aluS]
  case _ => simp [bulkheadref01_Alu.j0, bulkheadref01_Alu.j1, bulkheadref01_Alu.j2, bulkheadref01_Alu.j3, bulkheadref01_Alu.j4, aluS]
  case _ => simpa [bulkheadref01_Alu.j0, bulkheadref01_Alu.j1, bulkheadref01_Alu.j2, bulkheadref01_Alu.j3, bulkheadref01_Alu.j4, bulkheadref01_Alu.j5] using hsh 13 (by simp)
  case _ => simpa [bulkheadref01_Alu.j0, bulkheadref01_Alu.j1, bulkheadref01_Alu.j2, bulkheadref01_Alu.j3, bulkheadref01_Alu.j4, bulkheadref01_Alu.j5] using hsh 14 (by simp)
  case _ => simpa [bulkheadref01_Alu.j0, bulkheadref01_Alu.j1, bulkheadref01_Alu.j2, bulkheadref01_Alu.j3, bulkheadref01_Alu.j4, bulkheadref01_Alu.j5] using hsh 15 (by simp)
  case _ =>
    simp [bulkheadref01_Alu.j0, bulkheadref01_Alu.j1, bulkheadref01_Alu.j2, bulkheadref01_Alu.j3, bulkheadref01_Alu.j4, bulkheadref01_Alu.j5, bulkheadref01_Alu.j6, bulkheadref01_yes.f, aluS]
    split <;> simp
  case _ =>
    simp [bulkheadref01_Alu.j0, bulkheadref01_Alu.j1, bulkheadref01_Alu.j2, bulkheadref01_Alu.j3, bulkheadref01_Alu.j4, bulkheadref01_Alu.j5, bulkheadref01_Alu.j6, bulkheadref01_Alu.j7, bulkheadref01_yes.f, aluS]
    split <;> simp
  case _ => simp [bulkheadref01_Alu.j0, aluS, word_eq, e2]
  case _ => simp [bulkheadref01_Alu.j0, bulkheadref01_Alu.j1, bulkheadref01_Alu.j2, aluS]
  case _ => simp [bulkheadref01_Alu.j0, bulkheadref01_Alu.j1, bulkheadref01_Alu.j2, bulkheadref01_Alu.j3, aluS]
  case _ => simp [bulkheadref01_Alu.j0, bulkheadref01_Alu.j1, bulkheadref01_Alu.j2, bulkheadref01_Alu.j3, bulkheadref01_Alu.j4, aluS]
  case _ => simpa [bulkheadref01_Alu.j0, bulkheadref01_Alu.j1, bulkheadref01_Alu.j2, bulkheadref01_Alu.j3, bulkheadref01_Alu.j4, bulkheadref01_Alu.j5] using hsh 22 (by simp)
  case _ => simpa [bulkheadref01_Alu.j0, bulkheadref01_Alu.j1, bulkheadref01_Alu.j2, bulkheadref01_Alu.j3, bulkheadref01_Alu.j4, bulkheadref01_Alu.j5] using hsh 23 (by simp)
  case _ => simpa [bulkheadref01_Alu.j0, bulkheadref01_Alu.j1, bulkheadref01_Alu.j2, bulkheadref01_Alu.j3, bulkheadref01_Alu.j4, bulkheadref01_Alu.j5] using hsh 24 (by simp)
  case _ =>
    simp [bulkheadref01_Alu.j0, bulkheadref01_Alu.j1, bulkheadref01_Alu.j2, bulkheadref01_Alu.j3, bulkheadref01_Alu.j4, bulkheadref01_Alu.j5, bulkheadref01_Alu.j6, bulkheadref01_yes.f, aluS]
    split <;> simp
  case _ =>
    simp [bulkheadref01_Alu.j0, bulkheadref01_Alu.j1, bulkheadref01_Alu.j2, bulkheadref01_Alu.j3, bulkheadref01_Alu.j4, bulkheadref01_Alu.j5, bulkheadref01_Alu.j6, bulkheadref01_Alu.j7, bulkheadref01_yes.f, aluS]
    split <;> simp
  case _ => simp [bulkheadref01_Alu.j0, bulkheadref01_Alu.j1, bulkheadref01_Alu.j2, bulkheadref01_Alu.j3, bulkheadref01_Alu.j4, bulkheadref01_Alu.j5, bulkheadref01_Alu.j6, bulkheadref01_Alu.j7, aluS, e27]
  case _ =>
    have ne : ∀ c : Int, 2 ≤ c → c ≤ 27 → (op = c) = False := fun c h1 h2 => by
      simp
      omega
    simp [bulkheadref01_Alu.j0, bulkheadref01_Alu.j1, bulkheadref01_Alu.j2, bulkheadref01_Alu.j3, bulkheadref01_Alu.j4, bulkheadref01_Alu.j5, bulkheadref01_Alu.j6, bulkheadref01_Alu.j7, aluS, ne]
theorem WordAlu : bulkheadlaw01_WordAlu.Pure := by
  intro op a b _ ha hb
  obtain ⟨a0, a1⟩ := u32_bd ha
  obtain ⟨b0, b1⟩ := u32_bd hb
  refine ⟨50, ?_⟩
  unfold bulkheadlaw01_WordAlu.f
  rw [alu_prog a0 a1 b0 b1 38, alu_ref a0 a1 b0 b1 0]
  simp

end Go.Proofs.Ythhhebdcccfgkaa.Pure
