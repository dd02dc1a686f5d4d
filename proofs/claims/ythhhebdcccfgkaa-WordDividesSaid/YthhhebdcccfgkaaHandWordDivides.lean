/- Quotient and rest make what was divided: the walk of the law. -/
import Derived.Test.YthhhebdcccfgkaaPWordOrdersx3
import Derived.Test.YthhhebdcccfgkaaAid
namespace Go.Proofs.Ythhhebdcccfgkaa.HandDivides
open Go.RowKit Go.Proofs.Ythhhebdcccfgkaa.PWordOrders Go.Proofs.YthhhebdcccfgkaaW.PrintWords Go.Proofs.YthhhebdcccfgkaaW.PrintLast Go.Proofs.YthhhebdcccfgkaaW.PrintMore Go.Proofs.Ythhhebdcccfgkaa.Aid

set_option maxHeartbeats 800000 in
theorem zero (a : Int) (w : World) (hw : Aside0 (bulkheadlaw01_works.f 60 = some true))
    (h6 : Aside0 (word_Alu.f 60 6 a 0 = some (0, 10))) (h8 : Aside0 (word_Alu.f 60 8 a 0 = some (0, 10))) (h7 : Aside0 (word_Alu.f 60 7 a 0 = some (0, 10))) (h9 : Aside0 (word_Alu.f 60 9 a 0 = some (0, 10))) :
    Calls Try.prog 7 #[.int .u32 a, .int .u32 0] w fun e w' => e = .returned (.bool true) ∧ Below w.heap.size w w' := by
  go_enter Try.func7, Try.ntmps7
  go_wp2_with fail
  refine (bulkheadlaw01_works.calls 60 true _ hw.out).mono ?_
  rintro e w1 ⟨rfl, hb⟩
  have HB := Aside0.mk hb
  clear hb
  go_wp2_with fail
  refine (word_Alu.calls 60 6 a 0 _ _ _ h6.out).mono ?_
  rintro e w' ⟨rfl, ⟨n6, rfl⟩⟩
  go_wp2_with fail
  refine (word_Alu.calls 60 8 a 0 _ _ _ h8.out).mono ?_
  rintro e w' ⟨rfl, ⟨n8, rfl⟩⟩
  go_wp2_with fail
  refine (word_Alu.calls 60 7 a 0 _ _ _ h7.out).mono ?_
  rintro e w' ⟨rfl, ⟨n7, rfl⟩⟩
  go_wp2_with fail
  refine (word_Alu.calls 60 9 a 0 _ _ _ h9.out).mono ?_
  rintro e w' ⟨rfl, ⟨n9, rfl⟩⟩
  go_wp2_with fail
  go_ret
  exact ⟨rfl, by repeat (first | exact HB.out | apply pw_below_drewN | apply below_drew)⟩
set_option maxHeartbeats 800000 in
theorem some_ (a b q r u v : Int) (w : World) (hw : Aside0 (bulkheadlaw01_works.f 60 = some true))
    (h6 : Aside0 (word_Alu.f 60 6 a b = some (q, 0))) (h8 : Aside0 (word_Alu.f 60 8 a b = some (r, 0))) (h7 : Aside0 (word_Alu.f 60 7 a b = some (u, 0))) (h9 : Aside0 (word_Alu.f 60 9 a b = some (v, 0)))
    (hb : (b == 0) = false) (e1 : ((q * b + r) % 4294967296 == a) = true) (e2 : ((u * b + v) % 4294967296 == a) = true) (e3 : decide (v < b) = true)
    (e4 : decide (wrap64 (wrap64 (wrap32 r) * wrap64 (wrap32 r)) < wrap64 (wrap64 (wrap32 b) * wrap64 (wrap32 b))) = true)
    (e5 : Aside0 (IntKind.u64.wrap (IntKind.u64.wrap (IntKind.u64.wrap u * IntKind.u64.wrap b) + IntKind.u64.wrap v) = a)) (e6 : Aside0 (IntKind.u64.wrap a = a)) :
    Calls Try.prog 7 #[.int .u32 a, .int .u32 b] w fun e w' => e = .returned (.bool true) ∧ Below w.heap.size w w' := by
  go_enter Try.func7, Try.ntmps7
  go_wp2_with fail
  refine (bulkheadlaw01_works.calls 60 true _ hw.out).mono ?_
  rintro e w1 ⟨rfl, hb⟩
  have HB := Aside0.mk hb
  clear hb
  go_wp2_with fail
  refine (word_Alu.calls 60 6 a b _ _ _ h6.out).mono ?_
  rintro e w' ⟨rfl, ⟨n6, rfl⟩⟩
  go_wp2_with fail
  refine (word_Alu.calls 60 8 a b _ _ _ h8.out).mono ?_
  rintro e w' ⟨rfl, ⟨n8, rfl⟩⟩
  go_wp2_with fail
  refine (word_Alu.calls 60 7 a b _ _ _ h7.out).mono ?_
  rintro e w' ⟨rfl, ⟨n7, rfl⟩⟩
  go_wp2_with fail
  refine (word_Alu.calls 60 9 a b _ _ _ h9.out).mono ?_
  rintro e w' ⟨rfl, ⟨n9, rfl⟩⟩
  go_wp2_with fail
  go_ret
  refine ⟨?_, by repeat (first | exact HB.out | apply pw_below_drewN | apply below_drew)⟩
  rw [e5.out, e6.out]
  simp
/-- What the chapter says of an operation: the word, and the error. -/
def aluS (op a b : Int) : Int × Int :=
  if op = 2 ∨ op = 18 then ((a + b) % 4294967296, 0)
  else if op = 3 then ((a - b) % 4294967296, 0)
  else if op = 4 then ((a * b) % 4294967296, 0)
  else if op = 5 then ((wrap32 a * wrap32 b / 4294967296) % 4294967296, 0)
  else if op = 6 then (if b = 0 then (0, 10) else ((wrap64 (Int.tdiv (wrap32 a) (wrap32 b))) % 4294967296, 0))
  else if op = 7 then (if b = 0 then (0, 10) else (a / b, 0))
  else if op = 8 then (if b = 0 then (0, 10) else ((Int.tmod (wrap32 a) (wrap32 b)) % 4294967296, 0))
  else if op = 9 then (if b = 0 then (0, 10) else (a % b, 0))
  else if op = 10 ∨ op = 19 then (Go.bits .and .u32 a b, 0)
  else if op = 11 ∨ op = 20 then (Go.bits .or .u32 a b, 0)
  else if op = 12 ∨ op = 21 then (Go.bits .xor .u32 a b, 0)
  else if op = 13 ∨ op = 22 then ((a * 2 ^ (b % 32).toNat) % 4294967296, 0)
  else if op = 14 ∨ op = 23 then (a / 2 ^ (b % 32).toNat, 0)
  else if op = 15 ∨ op = 24 then ((wrap32 a / 2 ^ (b % 32).toNat) % 4294967296, 0)
  else if op = 16 ∨ op = 25 then (if wrap32 a < wrap32 b then 1 else 0, 0)
  else if op = 17 ∨ op = 26 then (if a < b then 1 else 0, 0)
  else if op = 27 then ((b * 65536) % 4294967296, 0)
  else (0, 5)
theorem op_cases (op : Int) : op = 2 ∨ op = 3 ∨ op = 4 ∨ op = 5 ∨ op = 6 ∨ op = 7 ∨ op = 8 ∨ op = 9 ∨ op = 10 ∨ op = 11 ∨ op = 12 ∨ op = 13 ∨ op = 14 ∨ op = 15 ∨ op = 16 ∨ op = 17 ∨ op = 18 ∨ op = 19 ∨ op = 20 ∨ op = 21 ∨ op = 22 ∨ op = 23 ∨ op = 24 ∨ op = 25 ∨ op = 26 ∨ op = 27 ∨ (op < 2 ∨ 27 < op) := by omega
theorem udiv_bd {a b : Int} (a0 : 0 ≤ a) (b0 : 0 ≤ b) : 0 ≤ a / b ∧ a / b ≤ a := ⟨Int.ediv_nonneg a0 b0, Int.ediv_le_self _ a0⟩
theorem div_prog {op a b : Int} (hop : op = 6 ∨ op = 7 ∨ op = 8 ∨ op = 9) (a0 : 0 ≤ a) (a1 : a < 4294967296) (b0 : 0 ≤ b) (b1 : b < 4294967296) : word_divide.f op a b = some (aluS op a b) := by
  have ha := w32_bd a
  have hb := w32_bd b
  unfold word_divide.f aluS
  by_cases hz : b = 0
  · rcases hop with rfl | rfl | rfl | rfl <;> simp [hz]
  · have hz2 : ¬ wrap32 b = 0 := fun h => hz ((w32_zero b0 b1).1 h)
    have hd := udiv_bd a0 b0
    have hm0 := Int.emod_nonneg a hz
    have hm1 := Int.emod_lt_of_pos a (show 0 < b by omega)
    rw [w64 (x := wrap32 a) (by omega) (by omega), w64 (x := wrap32 b) (by omega) (by omega), Int.tdiv_eq_ediv_of_nonneg a0, Int.tmod_eq_emod_of_nonneg a0]
    have e7 : a / b % 4294967296 = a / b := by omega
    rcases hop with rfl | rfl | rfl | rfl <;> simp [hz, hz2, e7]
theorem n_of {b : Int} (b0 : 0 ≤ b) (b1 : b < 4294967296) (k : IntKind) (hk : 32 ≤ k.bits) : min (Go.bits .and .u32 b 31).toNat k.bits = (b % 32).toNat := by
  rw [and31 b0 b1]
  omega
theorem alu_prog {op a b : Int} (a0 : 0 ≤ a) (a1 : a < 4294967296) (b0 : 0 ≤ b) (b1 : b < 4294967296) (k : Nat) : word_Alu.f (k + 12) op a b = some (aluS op a b) := by
  have ha := w32_bd a
  have hb := w32_bd b
  have hp := mul_bd ha.1 ha.2 hb.1 hb.2
  have hn : 0 ≤ Go.bits .and .u32 b 31 := by
    rw [and31 b0 b1]
    omega
  have n1 := n_of b0 b1 .u32 (by decide)
  have n2 := n_of b0 b1 .i32 (by decide)
  have e5 : IntKind.u64.wrap (wrap64 (wrap64 (wrap32 a) * wrap64 (wrap32 b))) / 4294967296 % 4294967296 = wrap32 a * wrap32 b / 4294967296 % 4294967296 := by
    rw [w64 (x := wrap32 a) (by omega) (by omega), w64 (x := wrap32 b) (by omega) (by omega), w64 (x := wrap32 a * wrap32 b) (by omega) (by omega), u64w]
    omega
  rcases op_cases op with rfl | rfl | rfl | rfl | rfl | rfl | rfl | rfl | rfl | rfl | rfl | rfl | rfl | rfl | rfl | rfl | rfl | rfl | rfl | rfl | rfl | rfl | rfl | rfl | rfl | rfl | h
  case _ => simp [word_Alu.f, word_Alu.j0, aluS]
  case _ => simp [word_Alu.f, word_Alu.j0, aluS]
  case _ => simp [word_Alu.f, word_Alu.j0, aluS]
  case _ => simp [word_Alu.f, word_Alu.j0, aluS, e5]
  case _ => simp [word_Alu.f, word_Alu.j0, word_Alu.j1, div_prog (op := 6) (by simp) a0 a1 b0 b1]
  case _ => simp [word_Alu.f, word_Alu.j0, word_Alu.j1, div_prog (op := 7) (by simp) a0 a1 b0 b1]
  case _ => simp [word_Alu.f, word_Alu.j0, word_Alu.j1, div_prog (op := 8) (by simp) a0 a1 b0 b1]
  case _ => simp [word_Alu.f, word_Alu.j0, word_Alu.j1, div_prog (op := 9) (by simp) a0 a1 b0 b1]
  case _ => simp [word_Alu.f, word_Alu.j0, word_Alu.j1, word_Alu.j2, aluS]
  case _ => simp [word_Alu.f, word_Alu.j0, word_Alu.j1, word_Alu.j2, word_Alu.j3, aluS]
  case _ => simp [word_Alu.f, word_Alu.j0, word_Alu.j1, word_Alu.j2, word_Alu.j3, word_Alu.j4, aluS]
  case _ => simp [word_Alu.f, word_Alu.j0, word_Alu.j1, word_Alu.j2, word_Alu.j3, word_Alu.j4, word_Alu.j5, aluS, hn, shl, n1, u32w]
  case _ => simp [word_Alu.f, word_Alu.j0, word_Alu.j1, word_Alu.j2, word_Alu.j3, word_Alu.j4, word_Alu.j5, word_Alu.j6, aluS, hn, shr, n1]
  case _ => simp [word_Alu.f, word_Alu.j0, word_Alu.j1, word_Alu.j2, word_Alu.j3, word_Alu.j4, word_Alu.j5, word_Alu.j6, word_Alu.j7, aluS, hn, shr, n2]
  case _ =>
    simp [word_Alu.f, word_Alu.j0, word_Alu.j1, word_Alu.j2, word_Alu.j3, word_Alu.j4, word_Alu.j5, word_Alu.j6, word_Alu.j7, word_Alu.j8, word_flag.f, aluS]
    split <;> simp
  case _ =>
    simp [word_Alu.f, word_Alu.j0, word_Alu.j1, word_Alu.j2, word_Alu.j3, word_Alu.j4, word_Alu.j5, word_Alu.j6, word_Alu.j7, word_Alu.j8, word_Alu.j9, word_flag.f, aluS]
    split <;> simp
  case _ => simp [word_Alu.f, word_Alu.j0, aluS]
  case _ => simp [word_Alu.f, word_Alu.j0, word_Alu.j1, word_Alu.j2, aluS]
  case _ => simp [word_Alu.f, word_Alu.j0, word_Alu.j1, word_Alu.j2, word_Alu.j3, aluS]
  case _ => simp [word_Alu.f, word_Alu.j0, word_Alu.j1, word_Alu.j2, word_Alu.j3, word_Alu.j4, aluS]
  case _ => simp [word_Alu.f, word_Alu.j0, word_Alu.j1, word_Alu.j2, word_Alu.j3, word_Alu.j4, word_Alu.j5, aluS, hn, shl, n1, u32w]
  case _ => simp [word_Alu.f, word_Alu.j0, word_Alu.j1, word_Alu.j2, word_Alu.j3, word_Alu.j4, word_Alu.j5, word_Alu.j6, aluS, hn, shr, n1]
  case _ => simp [word_Alu.f, word_Alu.j0, word_Alu.j1, word_Alu.j2, word_Alu.j3, word_Alu.j4, word_Alu.j5, word_Alu.j6, word_Alu.j7, aluS, hn, shr, n2]
  case _ =>
    simp [word_Alu.f, word_Alu.j0, word_Alu.j1, word_Alu.j2, word_Alu.j3, word_Alu.j4, word_Alu.j5, word_Alu.j6, word_Alu.j7, word_Alu.j8, word_flag.f, aluS]
    split <;> simp
  case _ =>
    simp [word_Alu.f, word_Alu.j0, word_Alu.j1, word_Alu.j2, word_Alu.j3, word_Alu.j4, word_Alu.j5, word_Alu.j6, word_Alu.j7, word_Alu.j8, word_Alu.j9, word_flag.f, aluS]
    split <;> simp
  case _ => simp [word_Alu.f, word_Alu.j0, word_Alu.j1, word_Alu.j2, word_Alu.j3, word_Alu.j4, word_Alu.j5, word_Alu.j6, word_Alu.j7, word_Alu.j8, word_Alu.j9, aluS]
  case _ =>
    have ne : ∀ c : Int, 2 ≤ c → c ≤ 27 → (op = c) = False := fun c h1 h2 => by
      simp
      omega
    simp [word_Alu.f, word_Alu.j0, word_Alu.j1, word_Alu.j2, word_Alu.j3, word_Alu.j4, word_Alu.j5, word_Alu.j6, word_Alu.j7, word_Alu.j8, word_Alu.j9, aluS, ne]
theorem works_true : bulkheadlaw01_works.f 60 = some true := by decide +kernel
theorem alu_at {op a b : Int} {r : Int × Int} (a0 : 0 ≤ a) (a1 : a < 4294967296) (b0 : 0 ≤ b) (b1 : b < 4294967296) (hr : aluS op a b = r) : word_Alu.f 60 op a b = some r := by
  rw [← hr]
  exact alu_prog a0 a1 b0 b1 48
theorem low (x : Int) : wrap32 x % 4294967296 = x % 4294967296 := by
  rw [w32_of]
  omega
theorem quot {a b : Int} (a0 : 0 ≤ a) (a1 : a < 4294967296) : (wrap64 (Int.tdiv (wrap32 a) (wrap32 b)) % 4294967296 * b + Int.tmod (wrap32 a) (wrap32 b) % 4294967296) % 4294967296 = a := by
  have h := Int.tmod_add_mul_tdiv (wrap32 a) (wrap32 b)
  have e1 : wrap64 (Int.tdiv (wrap32 a) (wrap32 b)) % 4294967296 = Int.tdiv (wrap32 a) (wrap32 b) % 4294967296 := by
    rw [w64_of]
    omega
  rw [e1, Int.add_emod, Int.mul_emod, Int.emod_emod, Int.emod_emod, ← low b, ← Int.mul_emod, ← Int.add_emod, Int.mul_comm, Int.add_comm, h, low]
  omega
theorem small {x y : Int} (y0 : -2147483648 ≤ y) (y1 : y ≤ 2147483647) (hy : y ≠ 0) :
    wrap64 (wrap64 (wrap32 (Int.tmod x y % 4294967296)) * wrap64 (wrap32 (Int.tmod x y % 4294967296))) < wrap64 (wrap64 y * wrap64 y) := by
  have h : (Int.tmod x y).natAbs < y.natAbs := by
    rw [Int.natAbs_tmod]
    exact Nat.mod_lt _ (by omega)
  generalize Int.tmod x y = m at *
  have e : wrap32 (m % 4294967296) = m := by
    rw [w32_of]
    omega
  have m1 := mul_bd (x := m) (y := m) (by omega) (by omega) (by omega) (by omega)
  have m2 := mul_bd y0 y1 y0 y1
  rw [e, w64 (x := m) (by omega) (by omega), w64 (x := y) (by omega) (by omega), w64 (x := m * m) (by omega) (by omega), w64 (x := y * y) (by omega) (by omega)]
  have h2 := Nat.mul_self_lt_mul_self h
  have e1 := @Int.natAbs_mul_self m
  have e2 := @Int.natAbs_mul_self y
  omega
theorem walk (a b : Int) (w : World) (ha : (Lit.int .u32 a).wf = true) (hb : (Lit.int .u32 b).wf = true) :
    Calls Try.prog 7 #[.int .u32 a, .int .u32 b] w fun e w' => e = .returned (.bool true) ∧ Below w.heap.size w w' := by
  obtain ⟨a0, a1⟩ := u32_bd ha
  obtain ⟨b0, b1⟩ := u32_bd hb
  by_cases hz : b = 0
  · subst hz
    exact zero a w ⟨works_true⟩ ⟨alu_at a0 a1 b0 b1 (by simp [aluS])⟩ ⟨alu_at a0 a1 b0 b1 (by simp [aluS])⟩ ⟨alu_at a0 a1 b0 b1 (by simp [aluS])⟩ ⟨alu_at a0 a1 b0 b1 (by simp [aluS])⟩
  · have wa := w32_bd a
    have wb := w32_bd b
    have hz2 : wrap32 b ≠ 0 := fun h => hz ((w32_zero b0 b1).1 h)
    have hd := udiv_bd a0 b0
    have hm0 := Int.emod_nonneg a hz
    have hm1 := Int.emod_lt_of_pos a (show 0 < b by omega)
    have hs := Int.mul_ediv_add_emod a b
    rw [Int.mul_comm] at hs
    have hu0 : 0 ≤ a / b * b := Int.mul_nonneg hd.1 b0
    refine some_ a b (wrap64 (Int.tdiv (wrap32 a) (wrap32 b)) % 4294967296) (Int.tmod (wrap32 a) (wrap32 b) % 4294967296) (a / b) (a % b) w ⟨works_true⟩
      ⟨alu_at a0 a1 b0 b1 (by simp [aluS, hz])⟩ ⟨alu_at a0 a1 b0 b1 (by simp [aluS, hz])⟩ ⟨alu_at a0 a1 b0 b1 (by simp [aluS, hz])⟩ ⟨alu_at a0 a1 b0 b1 (by simp [aluS, hz])⟩
      (beq_eq_false_iff_ne.2 hz) (beq_iff_eq.2 (quot a0 a1)) (beq_iff_eq.2 ?_) (decide_eq_true hm1) (decide_eq_true ?_) ⟨?_⟩ ⟨by rw [u64w]; omega⟩
    · omega
    · rw [w64 (x := wrap32 b) (by omega) (by omega)]
      have := small (x := wrap32 a) wb.1 wb.2 hz2
      rwa [w64 (x := wrap32 b) (by omega) (by omega)] at this
    · simp only [u64w]
      rw [Int.emod_eq_of_lt (a := a / b) (by omega) (by omega), Int.emod_eq_of_lt (a := b) (by omega) (by omega), Int.emod_eq_of_lt (a := a % b) (by omega) (by omega), Int.emod_eq_of_lt (a := a / b * b) (by omega) (by omega), hs]
      omega
end Go.Proofs.Ythhhebdcccfgkaa.HandDivides
