/- Shifts add up; to the right with the sign is halving: the walk of the law. -/
import Derived.Test.YthhhebdcccfgkaaPWordOrdersx3
import Derived.Test.YthhhebdcccfgkaaAid
namespace Go.Proofs.Ythhhebdcccfgkaa.HandShifts
open Go.RowKit Go.Proofs.Ythhhebdcccfgkaa.PWordOrders Go.Proofs.YthhhebdcccfgkaaW.PrintWords Go.Proofs.YthhhebdcccfgkaaW.PrintLast Go.Proofs.YthhhebdcccfgkaaW.PrintMore Go.Proofs.Ythhhebdcccfgkaa.Aid

theorem half_even {x : Int} (h : (x.tmod 2 == 0) = true) : x.tdiv 2 = x / 2 := by
  have h0 : x.tmod 2 = 0 := beq_iff_eq.1 h
  have := Int.tmod_add_mul_tdiv x 2
  omega
theorem half_odd {x : Int} (h : (x.tmod 2 == 0) = false) : (x - 1).tdiv 2 = x / 2 := by
  have h0 : ¬ x.tmod 2 = 0 := beq_eq_false_iff_ne.1 h
  have h1 := Int.tmod_add_mul_tdiv x 2
  have h2 := Int.tmod_add_mul_tdiv (x - 1) 2
  have a1 : Int.tmod x 2 < 2 ∧ -2 < Int.tmod x 2 := ⟨Int.tmod_lt_of_pos _ (by decide), Int.lt_tmod_of_pos _ (by decide)⟩
  have a2 : Int.tmod (x - 1) 2 < 2 ∧ -2 < Int.tmod (x - 1) 2 := ⟨Int.tmod_lt_of_pos _ (by decide), Int.lt_tmod_of_pos _ (by decide)⟩
  omega
theorem half_bd {x : Int} (he2 : (x.tmod 2 == 0) = true) (x0 : -2147483648 ≤ x) (x1 : x ≤ 2147483647) : -2147483648 ≤ x.tdiv 2 ∧ x.tdiv 2 ≤ 2147483647 := by
  rw [half_even he2]
  omega
theorem odd_bd {x : Int} (he2 : (x.tmod 2 == 0) = false) (x0 : -2147483648 ≤ x) (x1 : x ≤ 2147483647) : -2147483648 ≤ (x - 1).tdiv 2 ∧ (x - 1).tdiv 2 ≤ 2147483647 := by
  rw [half_odd he2]
  omega
theorem half_pow (N : Int) (i : Nat) : N / 2 ^ i / 2 = N / 2 ^ (i + 1) := by
  rw [Int.pow_succ, Int.ediv_ediv_of_nonneg (Int.pow_nonneg (by decide))]
theorem below_then2 {w w1 : World} (h : Aside0 (Below w.heap.size w w1)) {o : Obj} {m : Nat} : Below w.heap.size w ((w1.alloc o).drewN m) := pw_below_drewN (below_alloc h.out o) m
/-- What the round of one operation needs. -/
structure Round (op a b X Y : Int) : Prop where
  out : ∃ o t q : Int, word_Alu.f 60 op a X = some (o, 0) ∧ word_Alu.f 60 op o Y = some (t, 0) ∧ word_Alu.f 60 op a (X + Y) = some (q, 0) ∧ word_Alu.f 60 op a b = some (o, 0) ∧ (X + Y < 32 → t = q)
set_option maxHeartbeats 800000 in
set_option maxRecDepth 100000 in
theorem first (a b c X Y : Int) (w : World) (hw : Aside0 (bulkheadlaw01_works.f 60 = some true)) (hX : Aside0 (b.tmod 32 = X)) (hY : Aside0 (c.tmod 32 = Y)) (X0 : 0 ≤ X) (X1 : X < 32) (Y0 : 0 ≤ Y) (Y1 : Y < 32)
    (r13 : Round 13 a b X Y) (r14 : Round 14 a b X Y) (r15 : Round 15 a b X Y)
    (N s : Int) (hN : Aside0 (wrap64 (wrap32 a) = N)) (N0 : -2147483648 ≤ N) (N1 : N ≤ 2147483647) (hS : Aside0 (word_Alu.f 60 15 a X = some (s, 0))) (hs : Aside0 (s = N / 2 ^ X.toNat % 4294967296)) :
    Calls Try.prog 9 #[.int .u32 a, .int .u32 b, .int .u32 c] w fun e w' => e = .returned (.bool true) ∧ Below w.heap.size w w' := by
  go_enter Try.func9, Try.ntmps9
  go_wp2_with fail
  refine (bulkheadlaw01_works.calls 60 true _ hw.out).mono ?_
  rintro e w1 ⟨rfl, hb⟩
  have HB := Aside0.mk hb
  clear hb
  go_wp2_with fail
  rw [hX.out, hY.out]
  go_loopw [10] (fun v wr => ∃ i m : Nat, i ≤ 3 ∧ v = .int .i64 i ∧ wr = (w1.alloc (Obj.cells #[Value.int IntKind.i64 13, Value.int IntKind.i64 14, Value.int IntKind.i64 15] 39)).drewN m) (fun v _ => 3 - (intOf v).toNat)
  case atStart => exact ⟨0, 0, by omega, rfl, rfl⟩
  case round =>
    obtain ⟨i, m, hi, rfl, rfl⟩ := hrel
    have hc : i = 0 ∨ i = 1 ∨ i = 2 ∨ i = 3 := by omega
    clear hi
    rcases hc with rfl | rfl | rfl | rfl
    · obtain ⟨o, t, q, A1, A2, A3, A4, A5⟩ := r13.out
      have H1 := Aside0.mk A1
      have H2 := Aside0.mk A2
      have H3 := Aside0.mk A3
      have H4 := Aside0.mk A4
      have H5 := Aside0.mk A5
      clear A1 A2 A3 A4 A5
      go_wp2_with fail
      refine (word_Alu.calls 60 13 a X o 0 _ H1.out).mono ?_
      rintro e w' ⟨rfl, ⟨m1, rfl⟩⟩
      go_wp2_with fail
      refine (word_Alu.calls 60 13 o Y t 0 _ H2.out).mono ?_
      rintro e w' ⟨rfl, ⟨m2, rfl⟩⟩
      go_wp2_with fail
      refine (word_Alu.calls 60 13 a (X + Y) q 0 _ H3.out).mono ?_
      rintro e w' ⟨rfl, ⟨m3, rfl⟩⟩
      go_wp2_with fail
      refine (word_Alu.calls 60 13 a b o 0 _ H4.out).mono ?_
      rintro e w' ⟨rfl, ⟨m4, rfl⟩⟩
      by_cases hxy : X + Y < 32
      · obtain rfl : t = q := H5.out hxy
        have hd : decide (X + Y < 32) = true := decide_eq_true hxy
        go_wp2_with fail
        go_roundw
        case rel => exact ⟨1, _, by omega, by simp, by first | rfl | (simp only [World.drewN_drewN]; rfl)⟩
        case measure => simp [intOf]
      · have hd : decide (X + Y < 32) = false := decide_eq_false hxy
        go_wp2_with fail
        go_roundw
        case rel => exact ⟨1, _, by omega, by simp, by first | rfl | (simp only [World.drewN_drewN]; rfl)⟩
        case measure => simp [intOf]
    · obtain ⟨o, t, q, A1, A2, A3, A4, A5⟩ := r14.out
      have H1 := Aside0.mk A1
      have H2 := Aside0.mk A2
      have H3 := Aside0.mk A3
      have H4 := Aside0.mk A4
      have H5 := Aside0.mk A5
      clear A1 A2 A3 A4 A5
      go_wp2_with fail
      refine (word_Alu.calls 60 14 a X o 0 _ H1.out).mono ?_
      rintro e w' ⟨rfl, ⟨m1, rfl⟩⟩
      go_wp2_with fail
      refine (word_Alu.calls 60 14 o Y t 0 _ H2.out).mono ?_
      rintro e w' ⟨rfl, ⟨m2, rfl⟩⟩
      go_wp2_with fail
      refine (word_Alu.calls 60 14 a (X + Y) q 0 _ H3.out).mono ?_
      rintro e w' ⟨rfl, ⟨m3, rfl⟩⟩
      go_wp2_with fail
      refine (word_Alu.calls 60 14 a b o 0 _ H4.out).mono ?_
      rintro e w' ⟨rfl, ⟨m4, rfl⟩⟩
      by_cases hxy : X + Y < 32
      · obtain rfl : t = q := H5.out hxy
        have hd : decide (X + Y < 32) = true := decide_eq_true hxy
        go_wp2_with fail
        go_roundw
        case rel => exact ⟨2, _, by omega, by simp, by first | rfl | (simp only [World.drewN_drewN]; rfl)⟩
        case measure => simp [intOf]
      · have hd : decide (X + Y < 32) = false := decide_eq_false hxy
        go_wp2_with fail
        go_roundw
        case rel => exact ⟨2, _, by omega, by simp, by first | rfl | (simp only [World.drewN_drewN]; rfl)⟩
        case measure => simp [intOf]
    · obtain ⟨o, t, q, A1, A2, A3, A4, A5⟩ := r15.out
      have H1 := Aside0.mk A1
      have H2 := Aside0.mk A2
      have H3 := Aside0.mk A3
      have H4 := Aside0.mk A4
      have H5 := Aside0.mk A5
      clear A1 A2 A3 A4 A5
      go_wp2_with fail
      refine (word_Alu.calls 60 15 a X o 0 _ H1.out).mono ?_
      rintro e w' ⟨rfl, ⟨m1, rfl⟩⟩
      go_wp2_with fail
      refine (word_Alu.calls 60 15 o Y t 0 _ H2.out).mono ?_
      rintro e w' ⟨rfl, ⟨m2, rfl⟩⟩
      go_wp2_with fail
      refine (word_Alu.calls 60 15 a (X + Y) q 0 _ H3.out).mono ?_
      rintro e w' ⟨rfl, ⟨m3, rfl⟩⟩
      go_wp2_with fail
      refine (word_Alu.calls 60 15 a b o 0 _ H4.out).mono ?_
      rintro e w' ⟨rfl, ⟨m4, rfl⟩⟩
      by_cases hxy : X + Y < 32
      · obtain rfl : t = q := H5.out hxy
        have hd : decide (X + Y < 32) = true := decide_eq_true hxy
        go_wp2_with fail
        go_roundw
        case rel => exact ⟨3, _, by omega, by simp, by first | rfl | (simp only [World.drewN_drewN]; rfl)⟩
        case measure => simp [intOf]
      · have hd : decide (X + Y < 32) = false := decide_eq_false hxy
        go_wp2_with fail
        go_roundw
        case rel => exact ⟨3, _, by omega, by simp, by first | rfl | (simp only [World.drewN_drewN]; rfl)⟩
        case measure => simp [intOf]
    · go_wp2_with fail
      rw [hN.out]
      go_loop [19, 20] (fun v u => ∃ (i : Nat) (x : Int), (i : Int) ≤ X ∧ -2147483648 ≤ x ∧ x ≤ 2147483647 ∧ v = .int .i64 x ∧ u = .int .u32 i ∧ Aside0 (x = N / 2 ^ i)) (fun _ u => X.toNat - (intOf u).toNat)
      case atStart => exact ⟨0, N, X0, N0, N1, rfl, rfl, ⟨by simp⟩⟩
      case round =>
        obtain ⟨i, x, hi, x0, x1, rfl, rfl, hx⟩ := hrel
        by_cases hlt : (i : Int) < X
        · have hd : decide ((i : Int) < X) = true := decide_eq_true hlt
          by_cases he : x.tmod 2 = 0
          · have hq : (x.tmod 2 == 0) = true := beq_iff_eq.2 he
            have hq2 : (x.tmod 2 != 0) = false := bne_eq_false_iff_eq.2 he
            clear he
            go_wp2_with fail
            go_round
            case rel => exact ⟨i + 1, x.tdiv 2, by omega, (half_bd (he2 := hq) x0 x1).1, (half_bd (he2 := hq) x0 x1).2, by first | rfl | (rw [w64 (by have := half_bd (he2 := hq) x0 x1; omega) (by have := half_bd (he2 := hq) x0 x1; omega)]), by go_num, ⟨by rw [half_even hq, hx.out, half_pow]⟩⟩
            case measure =>
              simp [intOf]
              omega
          · have hq : (x.tmod 2 == 0) = false := beq_eq_false_iff_ne.2 he
            have hq2 : (x.tmod 2 != 0) = true := bne_iff_ne.2 he
            clear he
            go_wp2_with fail
            go_round
            case rel => exact ⟨i + 1, (x - 1).tdiv 2, by omega, (odd_bd (he2 := hq) x0 x1).1, (odd_bd (he2 := hq) x0 x1).2, by first | rfl | (rw [w64 (x := (x - 1).tdiv 2) (by have := odd_bd (he2 := hq) x0 x1; omega) (by have := odd_bd (he2 := hq) x0 x1; omega)]), by go_num, ⟨by rw [half_odd hq, hx.out, half_pow]⟩⟩
            case measure =>
              simp [intOf]
              omega
        · have hd : decide ((i : Int) < X) = false := decide_eq_false hlt
          go_wp2_with fail
          refine (word_Alu.calls 60 15 a X s 0 _ hS.out).mono ?_
          rintro e w' ⟨rfl, ⟨m4, rfl⟩⟩
          go_wp2_with fail
          go_ret
          refine ⟨?_, below_then2 HB⟩
          have hi2 : X.toNat = i := by omega
          show Ending.returned (Value.bool (s == x % 4294967296)) = _
          rw [hs.out, hx.out, hi2]
          simp
/-- What the chapter says of an operation: the word, and the error. -/
def aluS (op a b : Int) : Int × Int :=
  if op = 2 ∨ op = 18 then ((a + b) % 4294967296, 0)
  else if op = 3 then ((a - b) % 4294967296, 0)
  else if op = 4 then ((a * b) % 4294967296, 0)
  else if op = 5 then ((wrap32 a * wrap32 b / 4294967296) % 4294967296, 0)
  else if op = 6 then (if b = 0 then (0, 10) else ((wrap64 (Int.tdiv (wrap32 a) (wrap32 b))) % 4294967296, 0))
  else if op = 7 then (if b = 0 then (0, 10) else (a / b, 0))
  else if op = 8 then (if b = 0 then (0, 10) else ((Int.tmod (wrap32 a) (wrap32 b)) % 4294967296, 0))
  else if op = 9 then (if b = 0 then (0, 10) else (a % b, 0))
  else if op = 10 ∨ op = 19 then (Go.bits .and .u32 a b, 0)
  else if op = 11 ∨ op = 20 then (Go.bits .or .u32 a b, 0)
  else if op = 12 ∨ op = 21 then (Go.bits .xor .u32 a b, 0)
  else if op = 13 ∨ op = 22 then ((a * 2 ^ (b % 32).toNat) % 4294967296, 0)
  else if op = 14 ∨ op = 23 then (a / 2 ^ (b % 32).toNat, 0)
  else if op = 15 ∨ op = 24 then ((wrap32 a / 2 ^ (b % 32).toNat) % 4294967296, 0)
  else if op = 16 ∨ op = 25 then (if wrap32 a < wrap32 b then 1 else 0, 0)
  else if op = 17 ∨ op = 26 then (if a < b then 1 else 0, 0)
  else if op = 27 then ((b * 65536) % 4294967296, 0)
  else (0, 5)
theorem op_cases (op : Int) : op = 2 ∨ op = 3 ∨ op = 4 ∨ op = 5 ∨ op = 6 ∨ op = 7 ∨ op = 8 ∨ op = 9 ∨ op = 10 ∨ op = 11 ∨ op = 12 ∨ op = 13 ∨ op = 14 ∨ op = 15 ∨ op = 16 ∨ op = 17 ∨ op = 18 ∨ op = 19 ∨ op = 20 ∨ op = 21 ∨ op = 22 ∨ op = 23 ∨ op = 24 ∨ op = 25 ∨ op = 26 ∨ op = 27 ∨ (op < 2 ∨ 27 < op) := by omega
theorem udiv_bd {a b : Int} (a0 : 0 ≤ a) (b0 : 0 ≤ b) : 0 ≤ a / b ∧ a / b ≤ a := ⟨Int.ediv_nonneg a0 b0, Int.ediv_le_self _ a0⟩
theorem div_prog {op a b : Int} (hop : op = 6 ∨ op = 7 ∨ op = 8 ∨ op = 9) (a0 : 0 ≤ a) (a1 : a < 4294967296) (b0 : 0 ≤ b) (b1 : b < 4294967296) : word_divide.f op a b = some (aluS op a b) := by
  have ha := w32_bd a
  have hb := w32_bd b
  unfold word_divide.f aluS
  by_cases hz : b = 0
  · rcases hop with rfl | rfl | rfl | rfl <;> simp [hz]
  · have hz2 : ¬ wrap32 b = 0 := fun h => hz ((w32_zero b0 b1).1 h)
    have hd := udiv_bd a0 b0
    have hm0 := Int.emod_nonneg a hz
    have hm1 := Int.emod_lt_of_pos a (show 0 < b by omega)
    rw [w64 (x := wrap32 a) (by omega) (by omega), w64 (x := wrap32 b) (by omega) (by omega), Int.tdiv_eq_ediv_of_nonneg a0, Int.tmod_eq_emod_of_nonneg a0]
    have e7 : a / b % 4294967296 = a / b := by omega
    rcases hop with rfl | rfl | rfl | rfl <;> simp [hz, hz2, e7]
theorem n_of {b : Int} (b0 : 0 ≤ b) (b1 : b < 4294967296) (k : IntKind) (hk : 32 ≤ k.bits) : min (Go.bits .and .u32 b 31).toNat k.bits = (b % 32).toNat := by
  rw [and31 b0 b1]
  omega
theorem alu_prog {op a b : Int} (a0 : 0 ≤ a) (a1 : a < 4294967296) (b0 : 0 ≤ b) (b1 : b < 4294967296) (k : Nat) : word_Alu.f (k + 12) op a b = some (aluS op a b) := by
  have ha := w32_bd a
  have hb := w32_bd b
  have hp := mul_bd ha.1 ha.2 hb.1 hb.2
  have hn : 0 ≤ Go.bits .and .u32 b 31 := by
    rw [and31 b0 b1]
    omega
  have n1 := n_of b0 b1 .u32 (by decide)
  have n2 := n_of b0 b1 .i32 (by decide)
  have e5 : IntKind.u64.wrap (wrap64 (wrap64 (wrap32 a) * wrap64 (wrap32 b))) / 4294967296 % 4294967296 = wrap32 a * wrap32 b / 4294967296 % 4294967296 := by
    rw [w64 (x := wrap32 a) (by omega) (by omega), w64 (x := wrap32 b) (by omega) (by omega), w64 (x := wrap32 a * wrap32 b) (by omega) (by omega), u64w]
    omega
  rcases op_cases op with rfl | rfl | rfl | rfl | rfl | rfl | rfl | rfl | rfl | rfl | rfl | rfl | rfl | rfl | rfl | rfl | rfl | rfl | rfl | rfl | rfl | rfl | rfl | rfl | rfl | rfl | h
  case _ => simp [word_Alu.f, word_Alu.j0, aluS]
  case _ => simp [word_Alu.f, word_Alu.j0, aluS]
  case _ => simp [word_Alu.f, word_Alu.j0, aluS]
  case _ => simp [word_Alu.f, word_Alu.j0, aluS, e5]
  case _ => simp [word_Alu.f, word_Alu.j0, word_Alu.j1, div_prog (op := 6) (by simp) a0 a1 b0 b1]
  case _ => simp [word_Alu.f, word_Alu.j0, word_Alu.j1, div_prog (op := 7) (by simp) a0 a1 b0 b1]
  case _ => simp [word_Alu.f, word_Alu.j0, word_Alu.j1, div_prog (op := 8) (by simp) a0 a1 b0 b1]
  case _ => simp [word_Alu.f, word_Alu.j0, word_Alu.j1, div_prog (op := 9) (by simp) a0 a1 b0 b1]
  case _ => simp [word_Alu.f, word_Alu.j0, word_Alu.j1, word_Alu.j2, aluS]
  case _ => simp [word_Alu.f, word_Alu.j0, word_Alu.j1, word_Alu.j2, word_Alu.j3, aluS]
  case _ => simp [word_Alu.f, word_Alu.j0, word_Alu.j1, word_Alu.j2, word_Alu.j3, word_Alu.j4, aluS]
  case _ => simp [word_Alu.f, word_Alu.j0, word_Alu.j1, word_Alu.j2, word_Alu.j3, word_Alu.j4, word_Alu.j5, aluS, hn, shl, n1, u32w]
  case _ => simp [word_Alu.f, word_Alu.j0, word_Alu.j1, word_Alu.j2, word_Alu.j3, word_Alu.j4, word_Alu.j5, word_Alu.j6, aluS, hn, shr, n1]
  case _ => simp [word_Alu.f, word_Alu.j0, word_Alu.j1, word_Alu.j2, word_Alu.j3, word_Alu.j4, word_Alu.j5, word_Alu.j6, word_Alu.j7, aluS, hn, shr, n2]
  case _ =>
    simp [word_Alu.f, word_Alu.j0, word_Alu.j1, word_Alu.j2, word_Alu.j3, word_Alu.j4, word_Alu.j5, word_Alu.j6, word_Alu.j7, word_Alu.j8, word_flag.f, aluS]
    split <;> simp
  case _ =>
    simp [word_Alu.f, word_Alu.j0, word_Alu.j1, word_Alu.j2, word_Alu.j3, word_Alu.j4, word_Alu.j5, word_Alu.j6, word_Alu.j7, word_Alu.j8, word_Alu.j9, word_flag.f, aluS]
    split <;> simp
  case _ => simp [word_Alu.f, word_Alu.j0, aluS]
  case _ => simp [word_Alu.f, word_Alu.j0, word_Alu.j1, word_Alu.j2, aluS]
  case _ => simp [word_Alu.f, word_Alu.j0, word_Alu.j1, word_Alu.j2, word_Alu.j3, aluS]
  case _ => simp [word_Alu.f, word_Alu.j0, word_Alu.j1, word_Alu.j2, word_Alu.j3, word_Alu.j4, aluS]
  case _ => simp [word_Alu.f, word_Alu.j0, word_Alu.j1, word_Alu.j2, word_Alu.j3, word_Alu.j4, word_Alu.j5, aluS, hn, shl, n1, u32w]
  case _ => simp [word_Alu.f, word_Alu.j0, word_Alu.j1, word_Alu.j2, word_Alu.j3, word_Alu.j4, word_Alu.j5, word_Alu.j6, aluS, hn, shr, n1]
  case _ => simp [word_Alu.f, word_Alu.j0, word_Alu.j1, word_Alu.j2, word_Alu.j3, word_Alu.j4, word_Alu.j5, word_Alu.j6, word_Alu.j7, aluS, hn, shr, n2]
  case _ =>
    simp [word_Alu.f, word_Alu.j0, word_Alu.j1, word_Alu.j2, word_Alu.j3, word_Alu.j4, word_Alu.j5, word_Alu.j6, word_Alu.j7, word_Alu.j8, word_flag.f, aluS]
    split <;> simp
  case _ =>
    simp [word_Alu.f, word_Alu.j0, word_Alu.j1, word_Alu.j2, word_Alu.j3, word_Alu.j4, word_Alu.j5, word_Alu.j6, word_Alu.j7, word_Alu.j8, word_Alu.j9, word_flag.f, aluS]
    split <;> simp
  case _ => simp [word_Alu.f, word_Alu.j0, word_Alu.j1, word_Alu.j2, word_Alu.j3, word_Alu.j4, word_Alu.j5, word_Alu.j6, word_Alu.j7, word_Alu.j8, word_Alu.j9, aluS]
  case _ =>
    have ne : ∀ c : Int, 2 ≤ c → c ≤ 27 → (op = c) = False := fun c h1 h2 => by
      simp
      omega
    simp [word_Alu.f, word_Alu.j0, word_Alu.j1, word_Alu.j2, word_Alu.j3, word_Alu.j4, word_Alu.j5, word_Alu.j6, word_Alu.j7, word_Alu.j8, word_Alu.j9, aluS, ne]
theorem works_true : bulkheadlaw01_works.f 60 = some true := by decide +kernel
theorem alu_at {op a b : Int} {r : Int × Int} (a0 : 0 ≤ a) (a1 : a < 4294967296) (b0 : 0 ≤ b) (b1 : b < 4294967296) (hr : aluS op a b = r) : word_Alu.f 60 op a b = some r := by
  rw [← hr]
  exact alu_prog a0 a1 b0 b1 48
theorem pow_bd {x : Int} (n : Nat) (x0 : -2147483648 ≤ x) (x1 : x ≤ 2147483647) : -2147483648 ≤ x / 2 ^ n ∧ x / 2 ^ n ≤ 2147483647 := by
  induction n with
  | zero => simp; omega
  | succ n ih =>
    rw [← half_pow]
    omega
theorem walk (a b c : Int) (w : World) (ha : (Lit.int .u32 a).wf = true) (hb : (Lit.int .u32 b).wf = true) (hc : (Lit.int .u32 c).wf = true) :
    Calls Try.prog 9 #[.int .u32 a, .int .u32 b, .int .u32 c] w fun e w' => e = .returned (.bool true) ∧ Below w.heap.size w w' := by
  obtain ⟨a0, a1⟩ := u32_bd ha
  obtain ⟨b0, b1⟩ := u32_bd hb
  obtain ⟨c0, c1⟩ := u32_bd hc
  have eX : b.tmod 32 = b % 32 := Int.tmod_eq_emod_of_nonneg b0
  have eY : c.tmod 32 = c % 32 := Int.tmod_eq_emod_of_nonneg c0
  have wa := w32_bd a
  have m1 : b % 32 % 32 = b % 32 := by omega
  have m2 : c % 32 % 32 = c % 32 := by omega
  have m3 : b % 32 + c % 32 < 32 → ((b % 32 + c % 32) % 32).toNat = (b % 32).toNat + (c % 32).toNat := by omega
  have k0 : 0 ≤ a / 2 ^ (b % 32).toNat ∧ a / 2 ^ (b % 32).toNat ≤ a := ⟨Int.ediv_nonneg a0 (Int.pow_nonneg (by decide)), Int.ediv_le_self _ a0⟩
  have s0 := pow_bd (b % 32).toNat wa.1 wa.2
  have ew : wrap32 (wrap32 a / 2 ^ (b % 32).toNat % 4294967296) = wrap32 a / 2 ^ (b % 32).toNat := by
    rw [w32_of (_ % 4294967296)]
    omega
  refine first a b c (b % 32) (c % 32) w ⟨works_true⟩ ⟨eX⟩ ⟨eY⟩ (by omega) (by omega) (by omega) (by omega) ⟨?_⟩ ⟨?_⟩ ⟨?_⟩ (wrap32 a) (wrap32 a / 2 ^ (b % 32).toNat % 4294967296) ⟨w64 (by omega) (by omega)⟩ wa.1 wa.2 ⟨?_⟩ ⟨rfl⟩
  · refine ⟨(a * 2 ^ (b % 32).toNat) % 4294967296, (a * 2 ^ (b % 32).toNat) % 4294967296 * 2 ^ (c % 32).toNat % 4294967296, (a * 2 ^ ((b % 32 + c % 32) % 32).toNat) % 4294967296, ?_, ?_, ?_, ?_, ?_⟩
    · exact alu_at a0 a1 (by omega) (by omega) (by simp [aluS])
    · exact alu_at (by omega) (by omega) (by omega) (by omega) (by simp [aluS])
    · exact alu_at a0 a1 (by omega) (by omega) (by simp [aluS])
    · exact alu_at a0 a1 b0 b1 (by simp [aluS])
    · intro h
      rw [m3 h, Int.mul_emod, Int.emod_emod, ← Int.mul_emod, Int.mul_assoc, ← Int.pow_add]
  · refine ⟨a / 2 ^ (b % 32).toNat, a / 2 ^ (b % 32).toNat / 2 ^ (c % 32).toNat, a / 2 ^ ((b % 32 + c % 32) % 32).toNat, ?_, ?_, ?_, ?_, ?_⟩
    · exact alu_at a0 a1 (by omega) (by omega) (by simp [aluS])
    · exact alu_at (by omega) (by omega) (by omega) (by omega) (by simp [aluS])
    · exact alu_at a0 a1 (by omega) (by omega) (by simp [aluS])
    · exact alu_at a0 a1 b0 b1 (by simp [aluS])
    · intro h
      rw [m3 h, Int.ediv_ediv_of_nonneg (Int.pow_nonneg (by decide)), ← Int.pow_add]
  · refine ⟨wrap32 a / 2 ^ (b % 32).toNat % 4294967296, wrap32 a / 2 ^ (b % 32).toNat / 2 ^ (c % 32).toNat % 4294967296, wrap32 a / 2 ^ ((b % 32 + c % 32) % 32).toNat % 4294967296, ?_, ?_, ?_, ?_, ?_⟩
    · exact alu_at a0 a1 (by omega) (by omega) (by simp [aluS])
    · exact alu_at (by omega) (by omega) (by omega) (by omega) (by simp [aluS, ew])
    · exact alu_at a0 a1 (by omega) (by omega) (by simp [aluS])
    · exact alu_at a0 a1 b0 b1 (by simp [aluS])
    · intro h
      rw [m3 h, Int.ediv_ediv_of_nonneg (Int.pow_nonneg (by decide)), ← Int.pow_add]
  · exact alu_at a0 a1 (by omega) (by omega) (by simp [aluS])
end Go.Proofs.Ythhhebdcccfgkaa.HandShifts
