/- One order of words; sums and shifts go there and back; the two halves of a product make it. No condition. -/
import Derived.Test.YthhhebdcccfgkaaPWordOrdersx3
import Derived.Test.YthhhebdcccfgkaaAid
namespace Go.Proofs.Ythhhebdcccfgkaa.Pure
open Go.RowKit Go.Proofs.Ythhhebdcccfgkaa.PWordOrders Go.Proofs.YthhhebdcccfgkaaW.PrintWords Go.Proofs.YthhhebdcccfgkaaW.PrintLast Go.Proofs.Ythhhebdcccfgkaa.Aid

/-- What the chapter says of an operation: the word, and the error. -/
def aluS (op a b : Int) : Int × Int :=
  if op = 2 ∨ op = 18 then ((a + b) % 4294967296, 0)
  else if op = 3 then ((a - b) % 4294967296, 0)
  else if op = 4 then ((a * b) % 4294967296, 0)
  else if op = 5 then ((wrap32 a * wrap32 b / 4294967296) % 4294967296, 0)
  else if op = 6 then (if b = 0 then (0, 10) else ((wrap64 (Int.tdiv (wrap32 a) (wrap32 b))) % 4294967296, 0))
  else if op = 7 then (if b = 0 then (0, 10) else (a / b, 0))
  else if op = 8 then (if b = 0 then (0, 10) else ((Int.tmod (wrap32 a) (wrap32 b)) % 4294967296, 0))
  else if op = 9 then (if b = 0 then (0, 10) else (a % b, 0))
  else if op = 10 ∨ op = 19 then (Go.bits .and .u32 a b, 0)
  else if op = 11 ∨ op = 20 then (Go.bits .or .u32 a b, 0)
  else if op = 12 ∨ op = 21 then (Go.bits .xor .u32 a b, 0)
  else if op = 13 ∨ op = 22 then ((a * 2 ^ (b % 32).toNat) % 4294967296, 0)
  else if op = 14 ∨ op = 23 then (a / 2 ^ (b % 32).toNat, 0)
  else if op = 15 ∨ op = 24 then ((wrap32 a / 2 ^ (b % 32).toNat) % 4294967296, 0)
  else if op = 16 ∨ op = 25 then (if wrap32 a < wrap32 b then 1 else 0, 0)
  else if op = 17 ∨ op = 26 then (if a < b then 1 else 0, 0)
  else if op = 27 then ((b * 65536) % 4294967296, 0)
  else (0, 5)
theorem op_cases (op : Int) : op = 2 ∨ op = 3 ∨ op = 4 ∨ op = 5 ∨ op = 6 ∨ op = 7 ∨ op = 8 ∨ op = 9 ∨ op = 10 ∨ op = 11 ∨ op = 12 ∨ op = 13 ∨ op = 14 ∨ op = 15 ∨ op = 16 ∨ op = 17 ∨ op = 18 ∨ op = 19 ∨ op = 20 ∨ op = 21 ∨ op = 22 ∨ op = 23 ∨ op = 24 ∨ op = 25 ∨ op = 26 ∨ op = 27 ∨ (op < 2 ∨ 27 < op) := by omega
theorem udiv_bd {a b : Int} (a0 : 0 ≤ a) (b0 : 0 ≤ b) : 0 ≤ a / b ∧ a / b ≤ a := ⟨Int.ediv_nonneg a0 b0, Int.ediv_le_self _ a0⟩
theorem div_prog {op a b : Int} (hop : op = 6 ∨ op = 7 ∨ op = 8 ∨ op = 9) (a0 : 0 ≤ a) (a1 : a < 4294967296) (b0 : 0 ≤ b) (b1 : b < 4294967296) : word_divide.f op a b = some (aluS op a b) := by
  have ha := w32_bd a
  have hb := w32_bd b
  unfold word_divide.f aluS
  by_cases hz : b = 0
  · rcases hop with rfl | rfl | rfl | rfl <;> simp [hz]
  · have hz2 : ¬ wrap32 b = 0 := fun h => hz ((w32_zero b0 b1).1 h)
    have hd := udiv_bd a0 b0
    have hm0 := Int.emod_nonneg a hz
    have hm1 := Int.emod_lt_of_pos a (show 0 < b by omega)
    rw [w64 (x := wrap32 a) (by omega) (by omega), w64 (x := wrap32 b) (by omega) (by omega), Int.tdiv_eq_ediv_of_nonneg a0, Int.tmod_eq_emod_of_nonneg a0]
    have e7 : a / b % 4294967296 = a / b := by omega
    rcases hop with rfl | rfl | rfl | rfl <;> simp [hz, hz2, e7]
theorem n_of {b : Int} (b0 : 0 ≤ b) (b1 : b < 4294967296) (k : IntKind) (hk : 32 ≤ k.bits) : min (Go.bits .and .u32 b 31).toNat k.bits = (b % 32).toNat := by
  rw [and31 b0 b1]
  omega
theorem alu_prog {op a b : Int} (a0 : 0 ≤ a) (a1 : a < 4294967296) (b0 : 0 ≤ b) (b1 : b < 4294967296) (k : Nat) : word_Alu.f (k + 12) op a b = some (aluS op a b) := by
  have ha := w32_bd a
  have hb := w32_bd b
  have hp := mul_bd ha.1 ha.2 hb.1 hb.2
  have hn : 0 ≤ Go.bits .and .u32 b 31 := by
    rw [and31 b0 b1]
    omega
  have n1 := n_of b0 b1 .u32 (by decide)
  have n2 := n_of b0 b1 .i32 (by decide)
  have e5 : IntKind.u64.wrap (wrap64 (wrap64 (wrap32 a) * wrap64 (wrap32 b))) / 4294967296 % 4294967296 = wrap32 a * wrap32 b / 4294967296 % 4294967296 := by
    rw [w64 (x := wrap32 a) (by omega) (by omega), w64 (x := wrap32 b) (by omega) (by omega), w64 (x := wrap32 a * wrap32 b) (by omega) (by omega), u64w]
    omega
  rcases op_cases op with rfl | rfl | rfl | rfl | rfl | rfl | rfl | rfl | rfl | rfl | rfl | rfl | rfl | rfl | rfl | rfl | rfl | rfl | rfl | rfl | rfl | rfl | rfl | rfl | rfl | rfl | h
  case _ => simp [word_Alu.f, word_Alu.j0, aluS]
  case _ => simp [word_Alu.f, word_Alu.j0, aluS]
  case _ => simp [word_Alu.f, word_Alu.j0, aluS]
  case _ => simp [word_Alu.f, word_Alu.j0, aluS, e5]
  case _ => simp [word_Alu.f, word_Alu.j0, word_Alu.j1, div_prog (op := 6) (by simp) a0 a1 b0 b1]
  case _ => simp [word_Alu.f, word_Alu.j0, word_Alu.j1, div_prog (op := 7) (by simp) a0 a1 b0 b1]
  case _ => simp [word_Alu.f, word_Alu.j0, word_Alu.j1, div_prog (op := 8) (by simp) a0 a1 b0 b1]
  case _ => simp [word_Alu.f, word_Alu.j0, word_Alu.j1, div_prog (op := 9) (by simp) a0 a1 b0 b1]
  case _ => simp [word_Alu.f, word_Alu.j0, word_Alu.j1, word_Alu.j2, aluS]
  case _ => simp [word_Alu.f, word_Alu.j0, word_Alu.j1, word_Alu.j2, word_Alu.j3, aluS]
  case _ => simp [word_Alu.f, word_Alu.j0, word_Alu.j1, word_Alu.j2, word_Alu.j3, word_Alu.j4, aluS]
  case _ => simp [word_Alu.f, word_Alu.j0, word_Alu.j1, word_Alu.j2, word_Alu.j3, word_Alu.j4, word_Alu.j5, aluS, hn, shl, n1, u32w]
  case _ => simp [word_Alu.f, word_Alu.j0, word_Alu.j1, word_Alu.j2, word_Alu.j3, word_Alu.j4, word_Alu.j5, word_Alu.j6, aluS, hn, shr, n1]
  case _ => simp [word_Alu.f, word_Alu.j0, word_Alu.j1, word_Alu.j2, word_Alu.j3, word_Alu.j4, word_Alu.j5, word_Alu.j6, word_Alu.j7, aluS, hn, shr, n2]
  case _ =>
    simp [word_Alu.f, word_Alu.j0, word_Alu.j1, word_Alu.j2, word_Alu.j3, word_Alu.j4, word_Alu.j5, word_Alu.j6, word_Alu.j7, word_Alu.j8, word_flag.f, aluS]
    split <;> simp
  case _ =>
    simp [word_Alu.f, word_Alu.j0, word_Alu.j1, word_Alu.j2, word_Alu.j3, word_Alu.j4, word_Alu.j5, word_Alu.j6, word_Alu.j7, word_Alu.j8, word_Alu.j9, word_flag.f, aluS]
    split <;> simp
  case _ => simp [word_Alu.f, word_Alu.j0, aluS]
  case _ => simp [word_Alu.f, word_Alu.j0, word_Alu.j1, word_Alu.j2, aluS]
  case _ => simp [word_Alu.f, word_Alu.j0, word_Alu.j1, word_Alu.j2, word_Alu.j3, aluS]
  case _ => simp [word_Alu.f, word_Alu.j0, word_Alu.j1, word_Alu.j2, word_Alu.j3, word_Alu.j4, aluS]
  case _ => simp [word_Alu.f, word_Alu.j0, word_Alu.j1, word_Alu.j2, word_Alu.j3, word_Alu.j4, word_Alu.j5, aluS, hn, shl, n1, u32w]
  case _ => simp [word_Alu.f, word_Alu.j0, word_Alu.j1, word_Alu.j2, word_Alu.j3, word_Alu.j4, word_Alu.j5, word_Alu.j6, aluS, hn, shr, n1]
  case _ => simp [word_Alu.f, word_Alu.j0, word_Alu.j1, word_Alu.j2, word_Alu.j3, word_Alu.j4, word_Alu.j5, word_Alu.j6, word_Alu.j7, aluS, hn, shr, n2]
  case _ =>
    simp [word_Alu.f, word_Alu.j0, word_Alu.j1, word_Alu.j2, word_Alu.j3, word_Alu.j4, word_Alu.j5, word_Alu.j6, word_Alu.j7, word_Alu.j8, word_flag.f, aluS]
    split <;> simp
  case _ =>
    simp [word_Alu.f, word_Alu.j0, word_Alu.j1, word_Alu.j2, word_Alu.j3, word_Alu.j4, word_Alu.j5, word_Alu.j6, word_Alu.j7, word_Alu.j8, word_Alu.j9, word_flag.f, aluS]
    split <;> simp
  case _ => simp [word_Alu.f, word_Alu.j0, word_Alu.j1, word_Alu.j2, word_Alu.j3, word_Alu.j4, word_Alu.j5, word_Alu.j6, word_Alu.j7, word_Alu.j8, word_Alu.j9, aluS]
  case _ =>
    have ne : ∀ c : Int, 2 ≤ c → c ≤ 27 → (op = c) = False := fun c h1 h2 => by
      simp
      omega
    simp [word_Alu.f, word_Alu.j0, word_Alu.j1, word_Alu.j2, word_Alu.j3, word_Alu.j4, word_Alu.j5, word_Alu.j6, word_Alu.j7, word_Alu.j8, word_Alu.j9, aluS, ne]
theorem works_true : bulkheadlaw01_works.f 60 = some true := by decide +kernel
theorem alu_at {op a b : Int} {r : Int × Int} (a0 : 0 ≤ a) (a1 : a < 4294967296) (b0 : 0 ≤ b) (b1 : b < 4294967296) (hr : aluS op a b = r) : word_Alu.f 60 op a b = some r := by
  rw [← hr]
  exact alu_prog a0 a1 b0 b1 48
theorem or32 {h l : Int} (h0 : 0 ≤ h) (h1 : h < 4294967296) (l0 : 0 ≤ l) (l1 : l < 4294967296) : Go.bits .or .u64 (h * 4294967296) l = h * 4294967296 + l := by
  rw [u64_or _ _ (by omega) (by omega) l0 (by omega), nat_join 32 _ _ (by omega) (by omega)]
  omega
theorem low_eq (a b : Int) : a * b % 4294967296 = wrap32 a * wrap32 b % 4294967296 := by
  have h : ∀ x : Int, wrap32 x % 4294967296 = x % 4294967296 := fun x => by
    rw [w32_of]
    omega
  rw [Int.mul_emod a b, Int.mul_emod (wrap32 a) (wrap32 b), h, h]
theorem WordOrders : bulkheadlaw01_WordOrders.Pure := by
  intro a b ha hb
  obtain ⟨a0, a1⟩ := u32_bd ha
  obtain ⟨b0, b1⟩ := u32_bd hb
  have wa := w32_bd a
  have wb := w32_bd b
  have hp := mul_bd wa.1 wa.2 wb.1 wb.2
  refine ⟨60, ?_⟩
  have t40 : word_Branch.f 40 a b = some (decide (wrap32 a < wrap32 b), 0) := by simp [word_Branch.f]
  have t41 : word_Branch.f 41 a b = some (decide (wrap32 a ≥ wrap32 b), 0) := by simp [word_Branch.f]
  have t42 : word_Branch.f 42 a b = some (decide (a < b), 0) := by simp [word_Branch.f]
  have t43 : word_Branch.f 43 a b = some (decide (a ≥ b), 0) := by simp [word_Branch.f]
  have t38 : word_Branch.f 38 a b = some (a == b, 0) := by simp [word_Branch.f]
  have t39 : word_Branch.f 39 a b = some (a != b, 0) := by simp [word_Branch.f]
  have u16 := alu_at (op := 16) a0 a1 b0 b1 (r := (if wrap32 a < wrap32 b then 1 else 0, 0)) (by simp [aluS])
  have u17 := alu_at (op := 17) a0 a1 b0 b1 (r := (if a < b then 1 else 0, 0)) (by simp [aluS])
  have u2 := alu_at (op := 2) a0 a1 b0 b1 (r := ((a + b) % 4294967296, 0)) (by simp [aluS])
  have u3 := alu_at (op := 3) (a := (a + b) % 4294967296) (by omega) (by omega) b0 b1 (r := (((a + b) % 4294967296 - b) % 4294967296, 0)) (by simp [aluS])
  have u13 := alu_at (op := 13) a0 a1 b0 b1 (r := ((a * 2 ^ (b % 32).toNat) % 4294967296, 0)) (by simp [aluS])
  have u14 := alu_at (op := 14) (a := (a * 2 ^ (b % 32).toNat) % 4294967296) (by omega) (by omega) b0 b1 (r := ((a * 2 ^ (b % 32).toNat) % 4294967296 / 2 ^ (b % 32).toNat, 0)) (by simp [aluS])
  have u4 := alu_at (op := 4) a0 a1 b0 b1 (r := ((a * b) % 4294967296, 0)) (by simp [aluS])
  have u5 := alu_at (op := 5) a0 a1 b0 b1 (r := ((wrap32 a * wrap32 b / 4294967296) % 4294967296, 0)) (by simp [aluS])
  have es : shr .u32 (shl .u32 a (Int.tmod b 32)) (Int.tmod b 32) = (a * 2 ^ (b % 32).toNat) % 4294967296 / 2 ^ (b % 32).toNat := by
    have em : min (b % 32).toNat IntKind.u32.bits = (b % 32).toNat := by
      simp only [IntKind.bits]
      omega
    unfold shr shl
    rw [Int.tmod_eq_emod_of_nonneg b0, em, u32w]
  have eo : wrap64 (Go.bits .or .u64 (IntKind.u64.wrap ((IntKind.u64.wrap ((wrap32 a * wrap32 b / 4294967296) % 4294967296)) * 4294967296)) (IntKind.u64.wrap ((a * b) % 4294967296))) = wrap64 (wrap64 (wrap32 a) * wrap64 (wrap32 b)) := by
    rw [low_eq, w64 (x := wrap32 a) (by omega) (by omega), w64 (x := wrap32 b) (by omega) (by omega)]
    generalize wrap32 a * wrap32 b = p at *
    have e1 : IntKind.u64.wrap ((IntKind.u64.wrap (p / 4294967296 % 4294967296)) * 4294967296) = p / 4294967296 % 4294967296 * 4294967296 := by
      rw [u64w, u64w]
      omega
    have e2 : IntKind.u64.wrap (p % 4294967296) = p % 4294967296 := by
      rw [u64w]
      omega
    rw [e1, e2, or32 (by omega) (by omega) (by omega) (by omega), w64_of, w64_of]
    omega
  unfold bulkheadlaw01_WordOrders.f
  rw [works_true, t40, t41, t42, t43, t38, t39, u16, u17, u2, u13, u4, u5]
  simp only [Option.bind_some, u3, u14, if_true]
  have c1 : (decide (wrap32 a < wrap32 b) != decide (wrap32 a ≥ wrap32 b)) = true := by
    by_cases h : wrap32 a < wrap32 b
    · have h2 : ¬ wrap32 a ≥ wrap32 b := by omega
      simp [h, h2]
    · have h2 : wrap32 a ≥ wrap32 b := by omega
      simp [h, h2]
  have c2 : (decide (a < b) != decide (a ≥ b)) = true := by
    by_cases h : a < b
    · have h2 : ¬ a ≥ b := by omega
      simp [h, h2]
    · have h2 : a ≥ b := by omega
      simp [h, h2]
  have c3 : ((a == b) != (a != b)) = true := by
    by_cases h : a = b
    · simp [h]
    · have h1 : (a == b) = false := beq_eq_false_iff_ne.2 h
      have h2 : (a != b) = true := bne_iff_ne.2 h
      rw [h1, h2]
      rfl
  have c4 : (((if wrap32 a < wrap32 b then (1 : Int) else 0) == 1) == decide (wrap32 a < wrap32 b)) = true := by
    by_cases h : wrap32 a < wrap32 b <;> simp [h]
  have c5 : (((if a < b then (1 : Int) else 0) == 1) == decide (a < b)) = true := by
    by_cases h : a < b <;> simp [h]
  rw [if_pos c1, if_pos c2, if_pos c3, if_pos c4, if_pos c5, if_pos (by omega), if_pos (by rw [Int.tmod_eq_emod_of_nonneg b0]; omega), if_pos es.symm, eo]
  simp

end Go.Proofs.Ythhhebdcccfgkaa.Pure
