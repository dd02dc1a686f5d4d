/- AND, OR and XOR bit by bit; what is extended keeps its lowest bits: the walk of the law. -/
import Derived.Test.YthhhebdcccfgkaaPWordOrdersx3
import Derived.Test.YthhhebdcccfgkaaAid
namespace Go.Proofs.Ythhhebdcccfgkaa.HandBits
open Go.RowKit Go.Proofs.Ythhhebdcccfgkaa.PWordOrders Go.Proofs.YthhhebdcccfgkaaW.PrintWords Go.Proofs.YthhhebdcccfgkaaW.PrintLast Go.Proofs.YthhhebdcccfgkaaW.PrintMore Go.Proofs.Ythhhebdcccfgkaa.Aid

set_option maxHeartbeats 800000 in
theorem first (a b c x y z U S : Int) (n : Nat) (w : World) (hw : Aside0 (bulkheadlaw01_works.f 60 = some true))
    (h6 : Aside0 (word_Alu.f 60 10 a b = some (x, 0))) (h8 : Aside0 (word_Alu.f 60 11 a b = some (y, 0))) (h7 : Aside0 (word_Alu.f 60 12 a b = some (z, 0)))
    (hn : Aside0 (wrap64 (1 + wrap64 ((IntKind.u64.wrap c).tmod 31)) = (n : Int))) (n1 : 1 ≤ n) (n2 : n ≤ 31)
    (x1 : Aside0 (word_Extend.f a n false = some U)) (x2 : Aside0 (word_Extend.f a n true = some S)) (x3 : Aside0 (word_Extend.f U n true = some S)) (x4 : Aside0 (word_Extend.f S n false = some U))
    (t1 : (U == Go.bits .and .u32 a ((2 ^ n - 1) % 4294967296)) = true) (t2 : (Go.bits .and .u32 S ((2 ^ n - 1) % 4294967296) == U) = true)
    (t3 : Aside0 (((S == U) == ((a / 2 ^ (n - 1)).tmod 2 == 0)) = true))
    (hx : Aside0 (∀ i : Nat, i < 32 → (x / 2 ^ i).tmod 2 = (a / 2 ^ i).tmod 2 * (b / 2 ^ i).tmod 2 % 4294967296))
    (hy : Aside0 (∀ i : Nat, i < 32 → (y / 2 ^ i).tmod 2 = ((a / 2 ^ i).tmod 2 + (b / 2 ^ i).tmod 2 - (a / 2 ^ i).tmod 2 * (b / 2 ^ i).tmod 2) % 4294967296))
    (hz : Aside0 (∀ i : Nat, i < 32 → (z / 2 ^ i).tmod 2 = ((a / 2 ^ i).tmod 2 + (b / 2 ^ i).tmod 2) % 2)) :
    Calls Try.prog 10 #[.int .u32 a, .int .u32 b, .int .i64 c] w fun e w' => e = .returned (.bool true) ∧ Below w.heap.size w w' := by
  go_enter Try.func10, Try.ntmps10
  go_wp2_with fail
  refine (bulkheadlaw01_works.calls 60 true _ hw.out).mono ?_
  rintro e w1 ⟨rfl, hb⟩
  have HB := Aside0.mk hb
  clear hb
  go_wp2_with fail
  refine (word_Alu.calls 60 10 a b _ _ _ h6.out).mono ?_
  rintro e w' ⟨rfl, ⟨n6, rfl⟩⟩
  go_wp2_with fail
  refine (word_Alu.calls 60 11 a b _ _ _ h8.out).mono ?_
  rintro e w' ⟨rfl, ⟨n8, rfl⟩⟩
  go_wp2_with fail
  refine (word_Alu.calls 60 12 a b _ _ _ h7.out).mono ?_
  rintro e w' ⟨rfl, ⟨n7, rfl⟩⟩
  go_wp2_with fail
  go_loopw [13] (fun v wr => ∃ i : Nat, i ≤ 32 ∧ v = .int .i64 i ∧ Aside0 (Below w.heap.size w wr)) (fun v _ => 32 - (intOf v).toNat)
  case atStart => exact ⟨0, by omega, rfl, ⟨by repeat (first | exact HB.out | apply pw_below_drewN | apply below_drew)⟩⟩
  case round =>
    obtain ⟨i, hi, rfl, HB1⟩ := hrel
    clear HB
    by_cases hlt : i < 32
    · have f1 := beq_iff_eq.2 (hx.out i hlt)
      have f2 := beq_iff_eq.2 (hy.out i hlt)
      have f3 := bne_eq_false_iff_eq.2 (hz.out i hlt)
      have g1 := bne_eq_false_iff_eq.2 (hx.out i hlt)
      have g2 := bne_eq_false_iff_eq.2 (hy.out i hlt)
      go_wp2
      go_quiet (fail)
      go_wp2
      go_roundw
      case rel => exact ⟨i + 1, by omega, by go_num, ⟨by repeat (first | exact HB1.out | apply pw_below_drewN | apply below_drew)⟩⟩
      case measure =>
        simp [intOf]
        omega
    · go_wp2_with fail
      rw [hn.out]
      refine (word_Extend.calls a n false U _ x1.out).mono ?_
      rintro e w' ⟨rfl, ⟨m1, rfl⟩⟩
      go_wp2_with fail
      refine (word_Extend.calls a n true S _ x2.out).mono ?_
      rintro e w' ⟨rfl, ⟨m2, rfl⟩⟩
      go_wp2_with fail
      refine (word_Extend.calls U n true S _ x3.out).mono ?_
      rintro e w' ⟨rfl, ⟨m3, rfl⟩⟩
      go_wp2_with fail
      refine (word_Extend.calls S n false U _ x4.out).mono ?_
      rintro e w' ⟨rfl, ⟨m4, rfl⟩⟩
      go_wp2_with fail
      go_ret
      refine ⟨?_, by repeat (first | exact HB1.out | apply pw_below_drewN | apply below_drew)⟩
      show Ending.returned (Value.bool ((S == U) == ((a / 2 ^ (n - 1)).tmod 2 == 0))) = _
      rw [t3.out]
theorem two_pows {n : Nat} (h1 : 1 ≤ n) (h2 : n ≤ 31) : ∃ h q : Int, (2 : Int) ^ n = 2 * h ∧ (2 : Int) ^ (32 - n) = q ∧ 0 < h ∧ 0 < q ∧ h * q = 2147483648 ∧ 2 * h ≤ 2147483648 := by
  have e : (2 : Int) * (2 : Int) ^ (n - 1) = (2 : Int) ^ n := by
    rw [Int.mul_comm, ← Int.pow_succ]
    congr 1
    omega
  refine ⟨(2 : Int) ^ (n - 1), (2 : Int) ^ (32 - n), e.symm, rfl, Int.pow_pos (by decide), Int.pow_pos (by decide), ?_, ?_⟩
  · rw [← Int.pow_add]
    have : n - 1 + (32 - n) = 31 := by omega
    rw [this]
    rfl
  · have : 2 ^ n ≤ 2147483648 := Nat.pow_le_pow_right (n := 2) (by decide) h2
    rw [e, ← pow_cast]
    omega
theorem shl_mod {a p q : Int} (hq : 0 < q) : (a * q) % (p * q) = a % p * q := by
  rw [Int.mul_comm a, Int.mul_comm p, Int.mul_emod_mul_of_pos _ _ hq, Int.mul_comm]
theorem shl_u {a h q : Int} (hq : 0 < q) (e : h * q = 2147483648) : (a * q) % 4294967296 / q = a % (2 * h) := by
  have : (4294967296 : Int) = 2 * h * q := by rw [Int.mul_assoc, e]; rfl
  rw [this, shl_mod hq, Int.mul_ediv_cancel _ (by omega)]
theorem shl_s {a h q : Int} (hh : 0 < h) (hq : 0 < q) (e : h * q = 2147483648) : wrap32 ((a * q) % 4294967296) / q = if a % (2 * h) ≥ h then a % (2 * h) - 2 * h else a % (2 * h) := by
  have e2 : (4294967296 : Int) = 2 * h * q := by rw [Int.mul_assoc, e]; rfl
  have r0 := Int.emod_nonneg a (show 2 * h ≠ 0 by omega)
  have r1 := Int.emod_lt_of_pos a (show 0 < 2 * h by omega)
  have e3 : (a * q) % 4294967296 = a % (2 * h) * q := by rw [e2, shl_mod hq]
  rw [e3, w32_of]
  generalize a % (2 * h) = r at *
  split
  · rename_i hr
    have h1 : h * q ≤ r * q := Int.mul_le_mul_of_nonneg_right hr (by omega)
    have h2 : r * q < 2 * h * q := Int.mul_lt_mul_of_pos_right r1 hq
    have h3 : (r * q + 2147483648) % 4294967296 - 2147483648 = (r - 2 * h) * q := by
      rw [Int.sub_mul]
      omega
    rw [h3, Int.mul_ediv_cancel _ (by omega)]
  · rename_i hr
    have h1 : r * q < h * q := Int.mul_lt_mul_of_pos_right (by omega) hq
    have h2 : 0 ≤ r * q := Int.mul_nonneg r0 (by omega)
    have h3 : (r * q + 2147483648) % 4294967296 - 2147483648 = r * q := by omega
    rw [h3, Int.mul_ediv_cancel _ (by omega)]
theorem ext_prog {a : Int} {n : Nat} (h1 : 1 ≤ n) (h2 : n ≤ 31) (s : Bool) :
    word_Extend.f a (n : Int) s = some ((if s = true ∧ a % 2 ^ n ≥ 2 ^ n / 2 then a % 2 ^ n - 2 ^ n else a % 2 ^ n) % 4294967296) := by
  obtain ⟨h, q, ep, eq, hh, hq, e, hb⟩ := two_pows h1 h2
  unfold word_Extend.f
  rw [w64 (x := 32 - (n : Int)) (by omega) (by omega), if_neg (by omega), if_neg (by omega)]
  have em : min (32 - (n : Int)).toNat IntKind.u32.bits = 32 - n := by
    simp only [IntKind.bits]
    omega
  have em2 : min (32 - (n : Int)).toNat IntKind.i32.bits = 32 - n := em
  unfold shl shr
  rw [em, em2, eq, ep, u32w]
  have r0 := Int.emod_nonneg a (show 2 * h ≠ 0 by omega)
  have r1 := Int.emod_lt_of_pos a (show 0 < 2 * h by omega)
  have eh : 2 * h / 2 = h := by omega
  rw [eh]
  cases s with
  | true =>
    simp only [if_true, true_and]
    rw [if_pos (by omega), shl_s hh hq e]
  | false =>
    simp only [Bool.false_eq_true, if_false, false_and]
    rw [if_pos (by omega), shl_u hq e]
    congr 1
    omega
/-- What the chapter says of an operation: the word, and the error. -/
def aluS (op a b : Int) : Int × Int :=
  if op = 2 ∨ op = 18 then ((a + b) % 4294967296, 0)
  else if op = 3 then ((a - b) % 4294967296, 0)
  else if op = 4 then ((a * b) % 4294967296, 0)
  else if op = 5 then ((wrap32 a * wrap32 b / 4294967296) % 4294967296, 0)
  else if op = 6 then (if b = 0 then (0, 10) else ((wrap64 (Int.tdiv (wrap32 a) (wrap32 b))) % 4294967296, 0))
  else if op = 7 then (if b = 0 then (0, 10) else (a / b, 0))
  else if op = 8 then (if b = 0 then (0, 10) else ((Int.tmod (wrap32 a) (wrap32 b)) % 4294967296, 0))
  else if op = 9 then (if b = 0 then (0, 10) else (a % b, 0))
  else if op = 10 ∨ op = 19 then (Go.bits .and .u32 a b, 0)
  else if op = 11 ∨ op = 20 then (Go.bits .or .u32 a b, 0)
  else if op = 12 ∨ op = 21 then (Go.bits .xor .u32 a b, 0)
  else if op = 13 ∨ op = 22 then ((a * 2 ^ (b % 32).toNat) % 4294967296, 0)
  else if op = 14 ∨ op = 23 then (a / 2 ^ (b % 32).toNat, 0)
  else if op = 15 ∨ op = 24 then ((wrap32 a / 2 ^ (b % 32).toNat) % 4294967296, 0)
  else if op = 16 ∨ op = 25 then (if wrap32 a < wrap32 b then 1 else 0, 0)
  else if op = 17 ∨ op = 26 then (if a < b then 1 else 0, 0)
  else if op = 27 then ((b * 65536) % 4294967296, 0)
  else (0, 5)
theorem op_cases (op : Int) : op = 2 ∨ op = 3 ∨ op = 4 ∨ op = 5 ∨ op = 6 ∨ op = 7 ∨ op = 8 ∨ op = 9 ∨ op = 10 ∨ op = 11 ∨ op = 12 ∨ op = 13 ∨ op = 14 ∨ op = 15 ∨ op = 16 ∨ op = 17 ∨ op = 18 ∨ op = 19 ∨ op = 20 ∨ op = 21 ∨ op = 22 ∨ op = 23 ∨ op = 24 ∨ op = 25 ∨ op = 26 ∨ op = 27 ∨ (op < 2 ∨ 27 < op) := by omega
theorem udiv_bd {a b : Int} (a0 : 0 ≤ a) (b0 : 0 ≤ b) : 0 ≤ a / b ∧ a / b ≤ a := ⟨Int.ediv_nonneg a0 b0, Int.ediv_le_self _ a0⟩
theorem div_prog {op a b : Int} (hop : op = 6 ∨ op = 7 ∨ op = 8 ∨ op = 9) (a0 : 0 ≤ a) (a1 : a < 4294967296) (b0 : 0 ≤ b) (b1 : b < 4294967296) : word_divide.f op a b = some (aluS op a b) := by
  have ha := w32_bd a
  have hb := w32_bd b
  unfold word_divide.f aluS
  by_cases hz : b = 0
  · rcases hop with rfl | rfl | rfl | rfl <;> simp [hz]
  · have hz2 : ¬ wrap32 b = 0 := fun h => hz ((w32_zero b0 b1).1 h)
    have hd := udiv_bd a0 b0
    have hm0 := Int.emod_nonneg a hz
    have hm1 := Int.emod_lt_of_pos a (show 0 < b by omega)
    rw [w64 (x := wrap32 a) (by omega) (by omega), w64 (x := wrap32 b) (by omega) (by omega), Int.tdiv_eq_ediv_of_nonneg a0, Int.tmod_eq_emod_of_nonneg a0]
    have e7 : a / b % 4294967296 = a / b := by omega
    rcases hop with rfl | rfl | rfl | rfl <;> simp [hz, hz2, e7]
theorem n_of {b : Int} (b0 : 0 ≤ b) (b1 : b < 4294967296) (k : IntKind) (hk : 32 ≤ k.bits) : min (Go.bits .and .u32 b 31).toNat k.bits = (b % 32).toNat := by
  rw [and31 b0 b1]
  omega
theorem alu_prog {op a b : Int} (a0 : 0 ≤ a) (a1 : a < 4294967296) (b0 : 0 ≤ b) (b1 : b < 4294967296) (k : Nat) : word_Alu.f (k + 12) op a b = some (aluS op a b) := by
  have ha := w32_bd a
  have hb := w32_bd b
  have hp := mul_bd ha.1 ha.2 hb.1 hb.2
  have hn : 0 ≤ Go.bits .and .u32 b 31 := by
    rw [and31 b0 b1]
    omega
  have n1 := n_of b0 b1 .u32 (by decide)
  have n2 := n_of b0 b1 .i32 (by decide)
  have e5 : IntKind.u64.wrap (wrap64 (wrap64 (wrap32 a) * wrap64 (wrap32 b))) / 4294967296 % 4294967296 = wrap32 a * wrap32 b / 4294967296 % 4294967296 := by
    rw [w64 (x := wrap32 a) (by omega) (by omega), w64 (x := wrap32 b) (by omega) (by omega), w64 (x := wrap32 a * wrap32 b) (by omega) (by omega), u64w]
    omega
  rcases op_cases op with rfl | rfl | rfl | rfl | rfl | rfl | rfl | rfl | rfl | rfl | rfl | rfl | rfl | rfl | rfl | rfl | rfl | rfl | rfl | rfl | rfl | rfl | rfl | rfl | rfl | rfl | h
  case _ => simp [word_Alu.f, word_Alu.j0, aluS]
  case _ => simp [word_Alu.f, word_Alu.j0, aluS]
  case _ => simp [word_Alu.f, word_Alu.j0, aluS]
  case _ => simp [word_Alu.f, word_Alu.j0, aluS, e5]
  case _ => simp [word_Alu.f, word_Alu.j0, word_Alu.j1, div_prog (op := 6) (by simp) a0 a1 b0 b1]
  case _ => simp [word_Alu.f, word_Alu.j0, word_Alu.j1, div_prog (op := 7) (by simp) a0 a1 b0 b1]
  case _ => simp [word_Alu.f, word_Alu.j0, word_Alu.j1, div_prog (op := 8) (by simp) a0 a1 b0 b1]
  case _ => simp [word_Alu.f, word_Alu.j0, word_Alu.j1, div_prog (op := 9) (by simp) a0 a1 b0 b1]
  case _ => simp [word_Alu.f, word_Alu.j0, word_Alu.j1, word_Alu.j2, aluS]
  case _ => simp [word_Alu.f, word_Alu.j0, word_Alu.j1, word_Alu.j2, word_Alu.j3, aluS]
  case _ => simp [word_Alu.f, word_Alu.j0, word_Alu.j1, word_Alu.j2, word_Alu.j3, word_Alu.j4, aluS]
  case _ => simp [word_Alu.f, word_Alu.j0, word_Alu.j1, word_Alu.j2, word_Alu.j3, word_Alu.j4, word_Alu.j5, aluS, hn, shl, n1, u32w]
  case _ => simp [word_Alu.f, word_Alu.j0, word_Alu.j1, word_Alu.j2, word_Alu.j3, word_Alu.j4, word_Alu.j5, word_Alu.j6, aluS, hn, shr, n1]
  case _ => simp [word_Alu.f, word_Alu.j0, word_Alu.j1, word_Alu.j2, word_Alu.j3, word_Alu.j4, word_Alu.j5, word_Alu.j6, word_Alu.j7, aluS, hn, shr, n2]
  case _ =>
    simp [word_Alu.f, word_Alu.j0, word_Alu.j1, word_Alu.j2, word_Alu.j3, word_Alu.j4, word_Alu.j5, word_Alu.j6, word_Alu.j7, word_Alu.j8, word_flag.f, aluS]
    split <;> simp
  case _ =>
    simp [word_Alu.f, word_Alu.j0, word_Alu.j1, word_Alu.j2, word_Alu.j3, word_Alu.j4, word_Alu.j5, word_Alu.j6, word_Alu.j7, word_Alu.j8, word_Alu.j9, word_flag.f, aluS]
    split <;> simp
  case _ => simp [word_Alu.f, word_Alu.j0, aluS]
  case _ => simp [word_Alu.f, word_Alu.j0, word_Alu.j1, word_Alu.j2, aluS]
  case _ => simp [word_Alu.f, word_Alu.j0, word_Alu.j1, word_Alu.j2, word_Alu.j3, aluS]
  case _ => simp [word_Alu.f, word_Alu.j0, word_Alu.j1, word_Alu.j2, word_Alu.j3, word_Alu.j4, aluS]
  case _ => simp [word_Alu.f, word_Alu.j0, word_Alu.j1, word_Alu.j2, word_Alu.j3, word_Alu.j4, word_Alu.j5, aluS, hn, shl, n1, u32w]
  case _ => simp [word_Alu.f, word_Alu.j0, word_Alu.j1, word_Alu.j2, word_Alu.j3, word_Alu.j4, word_Alu.j5, word_Alu.j6, aluS, hn, shr, n1]
  case _ => simp [word_Alu.f, word_Alu.j0, word_Alu.j1, word_Alu.j2, word_Alu.j3, word_Alu.j4, word_Alu.j5, word_Alu.j6, word_Alu.j7, aluS, hn, shr, n2]
  case _ =>
    simp [word_Alu.f, word_Alu.j0, word_Alu.j1, word_Alu.j2, word_Alu.j3, word_Alu.j4, word_Alu.j5, word_Alu.j6, word_Alu.j7, word_Alu.j8, word_flag.f, aluS]
    split <;> simp
  case _ =>
    simp [word_Alu.f, word_Alu.j0, word_Alu.j1, word_Alu.j2, word_Alu.j3, word_Alu.j4, word_Alu.j5, word_Alu.j6, word_Alu.j7, word_Alu.j8, word_Alu.j9, word_flag.f, aluS]
    split <;> simp
  case _ => simp [word_Alu.f, word_Alu.j0, word_Alu.j1, word_Alu.j2, word_Alu.j3, word_Alu.j4, word_Alu.j5, word_Alu.j6, word_Alu.j7, word_Alu.j8, word_Alu.j9, aluS]
  case _ =>
    have ne : ∀ c : Int, 2 ≤ c → c ≤ 27 → (op = c) = False := fun c h1 h2 => by
      simp
      omega
    simp [word_Alu.f, word_Alu.j0, word_Alu.j1, word_Alu.j2, word_Alu.j3, word_Alu.j4, word_Alu.j5, word_Alu.j6, word_Alu.j7, word_Alu.j8, word_Alu.j9, aluS, ne]
theorem works_true : bulkheadlaw01_works.f 60 = some true := by decide +kernel
theorem alu_at {op a b : Int} {r : Int × Int} (a0 : 0 ≤ a) (a1 : a < 4294967296) (b0 : 0 ≤ b) (b1 : b < 4294967296) (hr : aluS op a b = r) : word_Alu.f 60 op a b = some r := by
  rw [← hr]
  exact alu_prog a0 a1 b0 b1 48
theorem bit_of (A i : Nat) : ((A : Int) / 2 ^ i).tmod 2 = (((A.testBit i).toNat : Nat) : Int) := by
  have h : (A : Int) / 2 ^ i = ((A / 2 ^ i : Nat) : Int) := by
    rw [← pow_cast]
    rfl
  rw [h, Int.tmod_eq_emod_of_nonneg (Int.natCast_nonneg _), Nat.toNat_testBit]
  rfl
theorem bits_three {A B : Nat} (hA : A < 4294967296) (hB : B < 4294967296) (i : Nat) :
    (Go.bits .and .u32 A B / 2 ^ i).tmod 2 = ((A : Int) / 2 ^ i).tmod 2 * ((B : Int) / 2 ^ i).tmod 2 % 4294967296 ∧
    (Go.bits .or .u32 A B / 2 ^ i).tmod 2 = (((A : Int) / 2 ^ i).tmod 2 + ((B : Int) / 2 ^ i).tmod 2 - ((A : Int) / 2 ^ i).tmod 2 * ((B : Int) / 2 ^ i).tmod 2) % 4294967296 ∧
    (Go.bits .xor .u32 A B / 2 ^ i).tmod 2 = (((A : Int) / 2 ^ i).tmod 2 + ((B : Int) / 2 ^ i).tmod 2) % 2 := by
  rw [u32_and_nat A B hA hB, u32_or_nat A B hA hB, u32_xor_nat A B hA hB, bit_of, bit_of, bit_of, bit_of, bit_of, Nat.testBit_and, Nat.testBit_or, Nat.testBit_xor]
  cases A.testBit i <;> cases B.testBit i <;> decide
theorem walk (a b c : Int) (w : World) (ha : (Lit.int .u32 a).wf = true) (hb : (Lit.int .u32 b).wf = true) (_hc : (Lit.int .i64 c).wf = true) :
    Calls Try.prog 10 #[.int .u32 a, .int .u32 b, .int .i64 c] w fun e w' => e = .returned (.bool true) ∧ Below w.heap.size w w' := by
  obtain ⟨a0, a1⟩ := u32_bd ha
  obtain ⟨b0, b1⟩ := u32_bd hb
  obtain ⟨A, rfl⟩ := Int.eq_ofNat_of_zero_le a0
  obtain ⟨B, rfl⟩ := Int.eq_ofNat_of_zero_le b0
  have h3 := fun i => bits_three (A := A) (B := B) (by omega) (by omega) i
  obtain ⟨n, n1, n2, hn⟩ : ∃ n : Nat, 1 ≤ n ∧ n ≤ 31 ∧ wrap64 (1 + wrap64 ((IntKind.u64.wrap c).tmod 31)) = (n : Int) := by
    refine ⟨(1 + (IntKind.u64.wrap c) % 31).toNat, ?_⟩
    have h0 : 0 ≤ IntKind.u64.wrap c := by
      rw [u64w]
      omega
    rw [Int.tmod_eq_emod_of_nonneg h0, w64 (x := IntKind.u64.wrap c % 31) (by omega) (by omega), w64 (by omega) (by omega)]
    omega
  obtain ⟨h, q, ep, eq, hh, hq, e, hle⟩ := two_pows n1 n2
  have r0 := Int.emod_nonneg (A : Int) (show (2 : Int) ^ n ≠ 0 by omega)
  have r1 := Int.emod_lt_of_pos (A : Int) (show (0 : Int) < 2 ^ n by omega)
  have hn1 : (2 : Int) ^ (n - 1) = h := by
    have : (2 : Int) ^ n = 2 ^ (n - 1) * 2 := by
      rw [← Int.pow_succ]
      congr 1
      omega
    omega
  have hbit : ((A : Int) / 2 ^ (n - 1)).tmod 2 = 0 ↔ (A : Int) % 2 ^ n < h := by
    have h1 : ((A : Int) / 2 ^ (n - 1)) = ((A / 2 ^ (n - 1) : Nat) : Int) := by
      rw [← pow_cast]
      rfl
    have h2 := Nat.mod_mul_right_div_self A (2 ^ (n - 1)) 2
    have h4 : (2 ^ (n - 1) * 2 : Nat) = 2 ^ n := by
      rw [← Nat.pow_succ]
      congr 1
      omega
    rw [h4] at h2
    have h5 : ((A % 2 ^ n : Nat) : Int) = (A : Int) % 2 ^ n := by
      rw [← pow_cast]
      rfl
    have h6 : ((2 ^ (n - 1) : Nat) : Int) = h := by
      rw [pow_cast, hn1]
    have h7 := Nat.div_eq_zero_iff_lt (x := A % 2 ^ n) (k := 2 ^ (n - 1)) (Nat.pow_pos (by decide))
    rw [h1, Int.tmod_eq_emod_of_nonneg (Int.natCast_nonneg _), ← h5, ← h6]
    generalize A / 2 ^ (n - 1) = X at *
    generalize A % 2 ^ n = Y at *
    generalize Y / 2 ^ (n - 1) = Z at *
    omega
  have low : (2 ^ n - 1 : Int) % 4294967296 = 2 ^ n - 1 := by omega
  have emod : (A : Int) % 2 ^ n % 2 ^ n = (A : Int) % 2 ^ n := Int.emod_emod _ _
  have x1 := ext_prog (a := (A : Int)) n1 n2 false
  have x2 := ext_prog (a := (A : Int)) n1 n2 true
  simp only [Bool.false_eq_true, false_and, if_false] at x1
  simp only [true_and] at x2
  have eU : (A : Int) % 2 ^ n % 4294967296 = (A : Int) % 2 ^ n := by omega
  rw [eU] at x1
  have x3 := ext_prog (a := (A : Int) % 2 ^ n) n1 n2 true
  simp only [true_and, emod] at x3
  have eh : (2 : Int) ^ n / 2 = h := by omega
  rw [eh] at x2 x3
  have es : ∃ S : Int, (if (A : Int) % 2 ^ n ≥ h then (A : Int) % 2 ^ n - 2 ^ n else (A : Int) % 2 ^ n) % 4294967296 = S ∧ 0 ≤ S ∧ S < 4294967296 ∧ S % 2 ^ n = (A : Int) % 2 ^ n ∧ (S = (A : Int) % 2 ^ n ↔ (A : Int) % 2 ^ n < h) := by
    refine ⟨_, rfl, by omega, by omega, ?_, ?_⟩
    · split
      · rename_i hr
        have e1 : ((A : Int) % 2 ^ n - 2 ^ n) % 4294967296 = (A : Int) % 2 ^ n + 2 ^ n * (q - 1) := by
          have : (2 : Int) ^ n * (q - 1) = 4294967296 - 2 ^ n := by
            rw [Int.mul_sub, ep, Int.mul_assoc, e]
            omega
          omega
        rw [e1, Int.add_mul_emod_self_left, emod]
      · rw [eU, emod]
    · split <;> omega
  obtain ⟨S, hS, s0, s1, sm, sU⟩ := es
  rw [hS] at x2 x3
  have x4 := ext_prog (a := S) n1 n2 false
  simp only [Bool.false_eq_true, false_and, if_false] at x4
  rw [sm, eU] at x4
  refine first A B c _ _ _ ((A : Int) % 2 ^ n) S n w ⟨works_true⟩ ⟨alu_at a0 a1 b0 b1 (by simp [aluS])⟩ ⟨alu_at a0 a1 b0 b1 (by simp [aluS])⟩ ⟨alu_at a0 a1 b0 b1 (by simp [aluS])⟩ ⟨hn⟩ n1 n2 ⟨x1⟩ ⟨x2⟩ ⟨x3⟩ ⟨x4⟩ ?_ ?_ ⟨?_⟩
    ⟨fun i _ => (h3 i).1⟩ ⟨fun i _ => (h3 i).2.1⟩ ⟨fun i _ => (h3 i).2.2⟩
  · rw [low, and_mask a0 a1 n (by omega)]
    simp
  · rw [low, and_mask s0 s1 n (by omega), sm]
    simp
  · rw [beq_iff_eq, Bool.eq_iff_iff, beq_iff_eq, beq_iff_eq, sU, hbit]
end Go.Proofs.Ythhhebdcccfgkaa.HandBits
