/- What the reference's digit and number answer. -/
import Derived.Test.YtjaeligjcgjamaaDoorDRefTxt
import Derived.Test.YtjaeligjcgjamaaDoorDRefText
namespace Go.Proofs.YtjaeligjcgjamaaDoor.DRefNum
open Go.RowKit Go.Proofs.YtjaeligjcgjamaaDoor.PRealOrder Go.Proofs.YtjaeligjcgjamaaDoorW.PrintWords Go.Proofs.YtjaeligjcgjamaaDoorW.PrintLast Go.Proofs.YtjaeligjcgjamaaDoorW.PrintMore Go.Proofs.YtjaeligjcgjamaaDoor.Aid Go.Proofs.YtjaeligjcgjamaaDoor.FloatPlain Go.Proofs.YtjaeligjcgjamaaDoor.DRealPure Go.Proofs.YtjaeligjcgjamaaDoor.DHex Go.Proofs.YtjaeligjcgjamaaDoor.DUnhex Go.Proofs.YtjaeligjcgjamaaDoor.DUnhexAny Go.Proofs.YtjaeligjcgjamaaDoor.DWorks Go.Proofs.YtjaeligjcgjamaaDoor.DTxt Go.Proofs.YtjaeligjcgjamaaDoor.DTextW Go.Proofs.YtjaeligjcgjamaaDoor.DRefTxt
set_option linter.unusedVariables false
set_option linter.unusedSimpArgs false
theorem idx (s : ByteArray) (i : Nat) (w : World) (h : i < s.data.toList.length) : (Instr.index 9 (.string s) (.int .i64 (i : Int))).run Tryd.prog w = .ok (.int .u8 ((s.data.toList.getD i 0).toNat : Int)) w := by
  have hs := Lib.size_eq s
  rw [run_index_string w 9 s .i64 (i : Int) Tryd.underlying9, dif_pos ⟨by omega, by omega⟩]
  congr 3
  have e : s[(i : Int).toNat]'(by omega) = s.data.toList[i] := by
    simp only [Int.toNat_natCast]
    rfl
  rw [e, List.getD_eq_getElem?_getD, List.getElem?_eq_getElem h]
  rfl
theorem idx0 (s : ByteArray) (w : World) (h : 0 < s.data.toList.length) : (Instr.index 9 (.string s) (.int .i64 0)).run Tryd.prog w = .ok (.int .u8 ((s.data.toList.getD 0 0).toNat : Int)) w := idx s 0 w h
theorem idx0_45 (s : ByteArray) (w : World) (h : 0 < s.data.toList.length) (h45 : s.data.toList.getD 0 0 = 45) : (Instr.index 9 (.string s) (.int .i64 0)).run Tryd.prog w = .ok (.int .u8 45) w := by
  rw [idx0 s w h, h45]
  rfl
theorem ne45 {c : UInt8} (h : c ≠ 45) : (c.toNat : Int) ≠ 45 := fun h2 => h (UInt8.toNat_inj.1 (by
  have : (45 : UInt8).toNat = 45 := rfl
  omega))
theorem digit_calls (c : UInt8) (w : World) : Calls Tryd.prog 22 #[.int .u8 (c.toNat : Int)] w fun e w' => e = .returned (.int .i64 (dgv c)) ∧ w' = w := by
  have HD : Aside0 (dgv c = if 48 ≤ c.toNat ∧ c.toNat ≤ 57 then (c.toNat : Int) - 48 else if 97 ≤ c.toNat ∧ c.toNat ≤ 102 then (c.toNat : Int) - 87 else -1) := ⟨rfl⟩
  have hlt : c.toNat < 256 := c.toNat_lt
  generalize dgv c = D at *
  generalize c.toNat = n at *
  have u1 : decide ((48 : Int) ≤ (n : Int)) = decide (48 ≤ n) := decide_eq_decide.2 (by omega)
  have ew : 48 ≤ n → IntKind.u8.wrap ((n : Int) - 48) = (n : Int) - 48 := fun h => by
    simp [IntKind.wrap, IntKind.bits, IntKind.signed]
    omega
  have ew2 : 97 ≤ n → IntKind.u8.wrap ((n : Int) - 97) = (n : Int) - 97 := fun h => by
    simp [IntKind.wrap, IntKind.bits, IntKind.signed]
    omega
  clear u1
  by_cases q0 : n < 48
  · skip
    have d0 : decide ((48 : Int) ≤ (n : Int)) = false := decide_eq_false (by omega)
    have g0 : decide (48 ≤ n) = false := decide_eq_false (by omega)
    have d1 : decide ((97 : Int) ≤ (n : Int)) = false := decide_eq_false (by omega)
    have g1 : decide (97 ≤ n) = false := decide_eq_false (by omega)
    have HR : Aside0 (D = -1) := ⟨by rw [HD.out, if_neg (by omega), if_neg (by omega)]⟩
    clear HD ew ew2 hlt q0
    go_enter Tryd.func22, Tryd.ntmps22
    go_wp2_with fail
    go_ret
    exact ⟨by rw [HR.out]; rfl, rfl⟩
  by_cases q1 : n ≤ 57
  · skip
    have d0 : decide ((48 : Int) ≤ (n : Int)) = true := decide_eq_true (by omega)
    have g0 : decide (48 ≤ n) = true := decide_eq_true (by omega)
    have d1 : decide ((n : Int) ≤ 57) = true := decide_eq_true (by omega)
    have g1 : decide (n ≤ 57) = true := decide_eq_true (by omega)
    have e1 := ew (by omega)
    have e2 : IntKind.i64.wrap ((n : Int) - 48) = (n : Int) - 48 := (i64_w _).trans (w64 (by omega) (by omega))
    have HR : Aside0 (D = (n : Int) - 48) := ⟨by rw [HD.out, if_pos (by omega)]⟩
    clear HD ew ew2 hlt q0 q1
    go_enter Tryd.func22, Tryd.ntmps22
    go_wp2_with fail
    go_ret
    exact ⟨by rw [HR.out]; rfl, rfl⟩
  by_cases q2 : n < 97
  · skip
    have d0 : decide ((48 : Int) ≤ (n : Int)) = true := decide_eq_true (by omega)
    have g0 : decide (48 ≤ n) = true := decide_eq_true (by omega)
    have d1 : decide ((n : Int) ≤ 57) = false := decide_eq_false (by omega)
    have g1 : decide (n ≤ 57) = false := decide_eq_false (by omega)
    have d2 : decide ((97 : Int) ≤ (n : Int)) = false := decide_eq_false (by omega)
    have g2 : decide (97 ≤ n) = false := decide_eq_false (by omega)
    have HR : Aside0 (D = -1) := ⟨by rw [HD.out, if_neg (by omega), if_neg (by omega)]⟩
    clear HD ew ew2 hlt q0 q1 q2
    go_enter Tryd.func22, Tryd.ntmps22
    go_wp2_with fail
    go_ret
    exact ⟨by rw [HR.out]; rfl, rfl⟩
  by_cases q3 : n ≤ 102
  · skip
    have d0 : decide ((48 : Int) ≤ (n : Int)) = true := decide_eq_true (by omega)
    have g0 : decide (48 ≤ n) = true := decide_eq_true (by omega)
    have d1 : decide ((n : Int) ≤ 57) = false := decide_eq_false (by omega)
    have g1 : decide (n ≤ 57) = false := decide_eq_false (by omega)
    have d2 : decide ((97 : Int) ≤ (n : Int)) = true := decide_eq_true (by omega)
    have g2 : decide (97 ≤ n) = true := decide_eq_true (by omega)
    have d3 : decide ((n : Int) ≤ 102) = true := decide_eq_true (by omega)
    have g3 : decide (n ≤ 102) = true := decide_eq_true (by omega)
    have e1 := ew2 (by omega)
    have e2 : IntKind.i64.wrap ((n : Int) - 97) = (n : Int) - 97 := (i64_w _).trans (w64 (by omega) (by omega))
    have e3 : IntKind.i64.wrap ((n : Int) - 97 + 10) = (n : Int) - 97 + 10 := (i64_w _).trans (w64 (by omega) (by omega))
    have HR : Aside0 (D = (n : Int) - 97 + 10) := ⟨by rw [HD.out, if_neg (by omega), if_pos (by omega)]; omega⟩
    clear HD ew ew2 hlt q0 q1 q2 q3
    go_enter Tryd.func22, Tryd.ntmps22
    go_wp2_with fail
    go_ret
    exact ⟨by rw [HR.out]; rfl, rfl⟩
  skip
  have d0 : decide ((48 : Int) ≤ (n : Int)) = true := decide_eq_true (by omega)
  have g0 : decide (48 ≤ n) = true := decide_eq_true (by omega)
  have d1 : decide ((n : Int) ≤ 57) = false := decide_eq_false (by omega)
  have g1 : decide (n ≤ 57) = false := decide_eq_false (by omega)
  have d2 : decide ((97 : Int) ≤ (n : Int)) = true := decide_eq_true (by omega)
  have g2 : decide (97 ≤ n) = true := decide_eq_true (by omega)
  have d3 : decide ((n : Int) ≤ 102) = false := decide_eq_false (by omega)
  have g3 : decide (n ≤ 102) = false := decide_eq_false (by omega)
  have HR : Aside0 (D = -1) := ⟨by rw [HD.out, if_neg (by omega), if_neg (by omega)]⟩
  clear HD ew ew2 hlt q0 q1 q2 q3
  go_enter Tryd.func22, Tryd.ntmps22
  go_wp2_with fail
  go_ret
  exact ⟨by rw [HR.out]; rfl, rfl⟩
/-- What number answers. -/
def NumPost (l : List UInt8) (w : World) (e : Ending) (w' : World) : Prop := e = .returned (.tuple #[.int .i64 ((numR l).getD 0), .bool (numR l).isSome]) ∧ w' = w
theorem step_lt {l : List UInt8} {n : Nat} (h : Lib.decFrom 0 l = some n) (hl : l.length ≤ 6) : n < 1000000 := by
  have h1 := Lib.decFrom_lt l 0 n h
  have h2 : 10 ^ l.length ≤ 10 ^ 6 := Nat.pow_le_pow_right (by decide) hl
  omega
set_option maxHeartbeats 3200000 in
set_option maxRecDepth 100000 in
theorem number_0 (s : ByteArray) (w : World) (h6 : s.size ≤ 6) (h0 : 0 < s.size) (h45 : s.data.toList.getD 0 0 ≠ 45) : Calls Tryd.prog 23 #[.string s] w (NumPost s.data.toList w) := by
  have hs := Lib.size_eq s
  have HIX : Aside0 (∀ i : Nat, i < s.data.toList.length → (Instr.index 9 (.string s) (.int .i64 (i : Int))).run Tryd.prog w = .ok (.int .u8 ((s.data.toList.getD i 0).toNat : Int)) w) := ⟨fun i h => idx s i w h⟩
  have hi0 := idx0 s w (by omega)
  have HNR : Aside0 (numR s.data.toList = (Lib.decFrom 0 (s.data.toList.drop 0)).map fun (n : Nat) => (n : Int)) := ⟨by
    have hh : s.data.toList.head? = some (s.data.toList.getD 0 0) := by
      cases e : s.data.toList with
      | nil =>
        rw [e, List.length_nil] at hs
        omega
      | cons a b => rfl
    unfold numR
    rw [if_neg (by omega), hh, if_neg (fun h => h45 (Option.some.inj h)), if_neg (by omega)]
    rfl⟩
  have hdl : (s.data.toList.drop 0).length = s.size - 0 := by rw [List.length_drop]; omega
  have HDL := Aside0.mk hdl
  have HS := Aside0.mk hs
  generalize hl : s.data.toList = l at *
  have HL := Aside0.mk hl
  have d0 : decide ((0 : Int) < (s.size : Int)) = true := decide_eq_true (by omega)
  have d1 : decide (0 < s.size) = true := decide_eq_true (by omega)
  have d2 : ((s.size : Int) == 0) = false := beq_eq_false_iff_ne.2 (by omega)
  have d3 : (s.size == 0) = false := beq_eq_false_iff_ne.2 (by omega)
  have d4 : decide ((6 : Int) < (s.size : Int)) = false := decide_eq_false (by omega)
  have d5 : decide (6 < s.size) = false := decide_eq_false (by omega)
  have H6 := Aside0.mk h6
  have H0 := Aside0.mk h0
  have hq := ne45 h45
  have d6 : (((l.getD 0 0).toNat : Int) == 45) = false := beq_eq_false_iff_ne.2 hq
  generalize (l.getD 0 0).toNat = c0 at *
  clear h45 hl hs hdl h6 h0 hq
  go_enter Tryd.func23, Tryd.ntmps23
  go_wp2_with fail
  clear d0 d1 d2 d3 d4 d5 d6 hi0
  go_loop [4, 6] (fun sn si => ∃ i n : Nat, 0 ≤ i ∧ i ≤ s.size ∧ sn = .int .i64 n ∧ si = .int .i64 i ∧ n < 1000000 ∧ Aside0 (Lib.decFrom 0 ((l.drop 0).take (i - 0)) = some n)) (fun _ si => s.size - (intOf si).toNat)
  case atStart => exact ⟨0, 0, by omega, by have := H0.out; omega, rfl, rfl, by omega, ⟨by simp [Lib.decFrom]⟩⟩
  case round =>
    obtain ⟨i, n, hi, his, rfl, rfl, hn, HN⟩ := hrel
    by_cases hlt : i < s.size
    · have hil : i < l.length := by have := HS.out; omega
      have hix := HIX.out i hil
      have d1 : decide ((i : Int) < (s.size : Int)) = true := decide_eq_true (by omega)
      have d2 : decide (i < s.size) = true := decide_eq_true hlt
      have hgd : l.getD i 0 = l[i] := by simp [hil]
      rw [hgd] at hix
      have hget : (l.drop 0)[i - 0]? = some l[i] := by
        rw [List.getElem?_drop, show 0 + (i - 0) = i by omega, List.getElem?_eq_getElem hil]
      have hc256 : l[i].toNat < 256 := l[i].toNat_lt
      by_cases hdig : 48 ≤ l[i].toNat ∧ l[i].toNat ≤ 57
      · have hst := Lib.decFrom_take (l.drop 0) (i - 0) 0 n l[i] (l[i].toNat - 48) HN.out hget (by unfold Lib.digitVal; rw [if_pos hdig])
        rw [show i - 0 + 1 = i + 1 - 0 by omega] at hst
        have hn2 := step_lt hst (by rw [List.length_take]; have := HDL.out; have := H6.out; omega)
        have HST := Aside0.mk hst
        clear hst hget hgd HN
        generalize l[i].toNat = c at *
        have t1 : decide ((c : Int) < 48) = false := decide_eq_false (by omega)
        have t2 : decide (c < 48) = false := decide_eq_false (by omega)
        have t3 : decide ((57 : Int) < (c : Int)) = false := decide_eq_false (by omega)
        have t4 : decide (57 < c) = false := decide_eq_false (by omega)
        have e1 : IntKind.u8.wrap ((c : Int) - 48) = (c : Int) - 48 := by
          simp [IntKind.wrap, IntKind.bits, IntKind.signed]
          omega
        have e2 : IntKind.i64.wrap ((c : Int) - 48) = (c : Int) - 48 := (i64_w _).trans (w64 (by omega) (by omega))
        have e3 : IntKind.i64.wrap ((n : Int) * 10) = (n : Int) * 10 := (i64_w _).trans (w64 (by omega) (by omega))
        have e4 : IntKind.i64.wrap ((n : Int) * 10 + ((c : Int) - 48)) = (n : Int) * 10 + ((c : Int) - 48) := (i64_w _).trans (w64 (by omega) (by omega))
        have e5 : IntKind.i64.wrap ((i : Int) + 1) = (i : Int) + 1 := (i64_w _).trans (w64 (by have := H6.out; omega) (by have := H6.out; omega))
        go_wp2_with fail
        go_round
        case rel => exact ⟨i + 1, n * 10 + (c - 48), by omega, by omega, congrArg (Value.int IntKind.i64) (by omega), by first | rfl | go_num, hn2, HST⟩
        case measure =>
          simp [intOf]
          omega
      · have HNN : Aside0 (numR l = none) := ⟨by
          rw [HNR.out]
          cases hd : Lib.decFrom 0 (l.drop 0) with
          | none => rfl
          | some m =>
            obtain ⟨d, hd2⟩ := Lib.digit_of_decFrom _ _ _ hd _ _ hget
            have := Lib.digitVal_eq hd2
            exact absurd ⟨this.1, this.2.1⟩ hdig⟩
        clear hget hgd HN HNR
        generalize l[i].toNat = c at *
        by_cases hlo : c < 48
        · have t1 : decide ((c : Int) < 48) = true := decide_eq_true (by omega)
          have t2 : decide (c < 48) = true := decide_eq_true (by omega)
          clear hdig
          go_wp2_with fail
          go_ret2
          unfold NumPost
          rw [HNN.out]
          exact ⟨rfl, rfl⟩
        · have t1 : decide ((c : Int) < 48) = false := decide_eq_false (by omega)
          have t2 : decide (c < 48) = false := decide_eq_false (by omega)
          have t3 : decide ((57 : Int) < (c : Int)) = true := decide_eq_true (by omega)
          have t4 : decide (57 < c) = true := decide_eq_true (by omega)
          clear hdig
          go_wp2_with fail
          go_ret2
          unfold NumPost
          rw [HNN.out]
          exact ⟨rfl, rfl⟩
    · obtain rfl : i = s.size := by omega
      have d1 : decide ((s.size : Int) < (s.size : Int)) = false := decide_eq_false (by omega)
      have hfull : (l.drop 0).take (s.size - 0) = l.drop 0 := List.take_of_length_le (by have := HDL.out; omega)
      have HNN : Aside0 (numR l = some (n : Int)) := ⟨by
        have h1 := HN.out
        rw [hfull] at h1
        rw [HNR.out, h1]
        rfl⟩
      have e1 : IntKind.i64.wrap (-(n : Int)) = -(n : Int) := (i64_w _).trans (w64 (by omega) (by omega))
      clear hfull HN HNR hlt
      go_wp2_with fail
      go_ret2
      unfold NumPost
      rw [HNN.out]
      exact ⟨rfl, rfl⟩
set_option maxHeartbeats 3200000 in
set_option maxRecDepth 100000 in
theorem number_1 (s : ByteArray) (w : World) (h6 : s.size ≤ 6) (h0 : 1 < s.size) (h45 : s.data.toList.getD 0 0 = 45) : Calls Tryd.prog 23 #[.string s] w (NumPost s.data.toList w) := by
  have hs := Lib.size_eq s
  have HIX : Aside0 (∀ i : Nat, i < s.data.toList.length → (Instr.index 9 (.string s) (.int .i64 (i : Int))).run Tryd.prog w = .ok (.int .u8 ((s.data.toList.getD i 0).toNat : Int)) w) := ⟨fun i h => idx s i w h⟩
  have hi0 := idx0_45 s w (by omega) h45
  have HNR : Aside0 (numR s.data.toList = (Lib.decFrom 0 (s.data.toList.drop 1)).map fun (n : Nat) => -(n : Int)) := ⟨by
    have hh : s.data.toList.head? = some (s.data.toList.getD 0 0) := by
      cases e : s.data.toList with
      | nil =>
        rw [e, List.length_nil] at hs
        omega
      | cons a b => rfl
    unfold numR
    rw [if_neg (by omega), hh, if_pos (congrArg some h45), if_neg (by omega)]⟩
  have hdl : (s.data.toList.drop 1).length = s.size - 1 := by rw [List.length_drop]; omega
  have HDL := Aside0.mk hdl
  have HS := Aside0.mk hs
  generalize hl : s.data.toList = l at *
  have HL := Aside0.mk hl
  have d0 : decide ((0 : Int) < (s.size : Int)) = true := decide_eq_true (by omega)
  have d1 : decide (0 < s.size) = true := decide_eq_true (by omega)
  have d2 : ((s.size : Int) == 1) = false := beq_eq_false_iff_ne.2 (by omega)
  have d3 : (s.size == 1) = false := beq_eq_false_iff_ne.2 (by omega)
  have d4 : decide ((6 : Int) < (s.size : Int)) = false := decide_eq_false (by omega)
  have d5 : decide (6 < s.size) = false := decide_eq_false (by omega)
  have H6 := Aside0.mk h6
  have H0 := Aside0.mk h0
  clear h45 hl hs hdl h6 h0
  go_enter Tryd.func23, Tryd.ntmps23
  go_wp2_with fail
  clear d0 d1 d2 d3 d4 d5 hi0
  go_loop [4, 6] (fun sn si => ∃ i n : Nat, 1 ≤ i ∧ i ≤ s.size ∧ sn = .int .i64 n ∧ si = .int .i64 i ∧ n < 1000000 ∧ Aside0 (Lib.decFrom 0 ((l.drop 1).take (i - 1)) = some n)) (fun _ si => s.size - (intOf si).toNat)
  case atStart => exact ⟨1, 0, by omega, by have := H0.out; omega, rfl, rfl, by omega, ⟨by simp [Lib.decFrom]⟩⟩
  case round =>
    obtain ⟨i, n, hi, his, rfl, rfl, hn, HN⟩ := hrel
    by_cases hlt : i < s.size
    · have hil : i < l.length := by have := HS.out; omega
      have hix := HIX.out i hil
      have d1 : decide ((i : Int) < (s.size : Int)) = true := decide_eq_true (by omega)
      have d2 : decide (i < s.size) = true := decide_eq_true hlt
      have hgd : l.getD i 0 = l[i] := by simp [hil]
      rw [hgd] at hix
      have hget : (l.drop 1)[i - 1]? = some l[i] := by
        rw [List.getElem?_drop, show 1 + (i - 1) = i by omega, List.getElem?_eq_getElem hil]
      have hc256 : l[i].toNat < 256 := l[i].toNat_lt
      by_cases hdig : 48 ≤ l[i].toNat ∧ l[i].toNat ≤ 57
      · have hst := Lib.decFrom_take (l.drop 1) (i - 1) 0 n l[i] (l[i].toNat - 48) HN.out hget (by unfold Lib.digitVal; rw [if_pos hdig])
        rw [show i - 1 + 1 = i + 1 - 1 by omega] at hst
        have hn2 := step_lt hst (by rw [List.length_take]; have := HDL.out; have := H6.out; omega)
        have HST := Aside0.mk hst
        clear hst hget hgd HN
        generalize l[i].toNat = c at *
        have t1 : decide ((c : Int) < 48) = false := decide_eq_false (by omega)
        have t2 : decide (c < 48) = false := decide_eq_false (by omega)
        have t3 : decide ((57 : Int) < (c : Int)) = false := decide_eq_false (by omega)
        have t4 : decide (57 < c) = false := decide_eq_false (by omega)
        have e1 : IntKind.u8.wrap ((c : Int) - 48) = (c : Int) - 48 := by
          simp [IntKind.wrap, IntKind.bits, IntKind.signed]
          omega
        have e2 : IntKind.i64.wrap ((c : Int) - 48) = (c : Int) - 48 := (i64_w _).trans (w64 (by omega) (by omega))
        have e3 : IntKind.i64.wrap ((n : Int) * 10) = (n : Int) * 10 := (i64_w _).trans (w64 (by omega) (by omega))
        have e4 : IntKind.i64.wrap ((n : Int) * 10 + ((c : Int) - 48)) = (n : Int) * 10 + ((c : Int) - 48) := (i64_w _).trans (w64 (by omega) (by omega))
        have e5 : IntKind.i64.wrap ((i : Int) + 1) = (i : Int) + 1 := (i64_w _).trans (w64 (by have := H6.out; omega) (by have := H6.out; omega))
        go_wp2_with fail
        go_round
        case rel => exact ⟨i + 1, n * 10 + (c - 48), by omega, by omega, congrArg (Value.int IntKind.i64) (by omega), by first | rfl | go_num, hn2, HST⟩
        case measure =>
          simp [intOf]
          omega
      · have HNN : Aside0 (numR l = none) := ⟨by
          rw [HNR.out]
          cases hd : Lib.decFrom 0 (l.drop 1) with
          | none => rfl
          | some m =>
            obtain ⟨d, hd2⟩ := Lib.digit_of_decFrom _ _ _ hd _ _ hget
            have := Lib.digitVal_eq hd2
            exact absurd ⟨this.1, this.2.1⟩ hdig⟩
        clear hget hgd HN HNR
        generalize l[i].toNat = c at *
        by_cases hlo : c < 48
        · have t1 : decide ((c : Int) < 48) = true := decide_eq_true (by omega)
          have t2 : decide (c < 48) = true := decide_eq_true (by omega)
          clear hdig
          go_wp2_with fail
          go_ret2
          unfold NumPost
          rw [HNN.out]
          exact ⟨rfl, rfl⟩
        · have t1 : decide ((c : Int) < 48) = false := decide_eq_false (by omega)
          have t2 : decide (c < 48) = false := decide_eq_false (by omega)
          have t3 : decide ((57 : Int) < (c : Int)) = true := decide_eq_true (by omega)
          have t4 : decide (57 < c) = true := decide_eq_true (by omega)
          clear hdig
          go_wp2_with fail
          go_ret2
          unfold NumPost
          rw [HNN.out]
          exact ⟨rfl, rfl⟩
    · obtain rfl : i = s.size := by omega
      have d1 : decide ((s.size : Int) < (s.size : Int)) = false := decide_eq_false (by omega)
      have hfull : (l.drop 1).take (s.size - 1) = l.drop 1 := List.take_of_length_le (by have := HDL.out; omega)
      have HNN : Aside0 (numR l = some (-(n : Int))) := ⟨by
        have h1 := HN.out
        rw [hfull] at h1
        rw [HNR.out, h1]
        rfl⟩
      have e1 : IntKind.i64.wrap (-(n : Int)) = -(n : Int) := (i64_w _).trans (w64 (by omega) (by omega))
      clear hfull HN HNR hlt
      go_wp2_with fail
      go_ret2
      unfold NumPost
      rw [HNN.out]
      exact ⟨rfl, rfl⟩
set_option maxHeartbeats 3200000 in
set_option maxRecDepth 100000 in
theorem number_calls (s : ByteArray) (w : World) (hm : s.size ≤ 140737488355328) : Calls Tryd.prog 23 #[.string s] w (NumPost s.data.toList w) := by
  have hs := Lib.size_eq s
  by_cases h0 : s.size = 0
  · have hl : s.data.toList = [] := List.eq_nil_of_length_eq_zero (by omega)
    have HNN : Aside0 (numR s.data.toList = none) := ⟨by rw [hl]; rfl⟩
    have d0 : decide ((0 : Int) < (s.size : Int)) = false := decide_eq_false (by omega)
    have d1 : decide (0 < s.size) = false := decide_eq_false (by omega)
    have d2 : ((s.size : Int) == 0) = true := beq_iff_eq.2 (by omega)
    clear hl hs hm
    go_enter Tryd.func23, Tryd.ntmps23
    go_wp2_with fail
    go_ret2
    unfold NumPost
    rw [HNN.out]
    exact ⟨rfl, rfl⟩
  · by_cases hbad : s.size ≤ 6 ∧ ¬ (s.size = 1 ∧ s.data.toList.getD 0 0 = 45)
    · by_cases h45 : s.data.toList.getD 0 0 = 45
      · exact number_1 s w hbad.1 (by
          rcases Nat.lt_or_ge 1 s.size with h | h
          · exact h
          · exact absurd ⟨by omega, h45⟩ hbad.2) h45
      · exact number_0 s w hbad.1 (by omega) h45
    · have hh : s.data.toList.head? = some (s.data.toList.getD 0 0) := by
        cases e : s.data.toList with
        | nil =>
        rw [e, List.length_nil] at hs
        omega
        | cons a b => rfl
      have HNN : Aside0 (numR s.data.toList = none) := ⟨by
        unfold numR
        by_cases h6 : 6 < s.data.toList.length
        · rw [if_pos h6]
        · have h7 : s.size = 1 ∧ s.data.toList.getD 0 0 = 45 := by
            by_cases h8 : s.size = 1 ∧ s.data.toList.getD 0 0 = 45
            · exact h8
            · exact absurd ⟨by omega, h8⟩ hbad
          have h71 := h7.1
          rw [if_neg h6, hh, if_pos (congrArg some h7.2), if_pos (by omega)]⟩
      have d0 : decide ((0 : Int) < (s.size : Int)) = true := decide_eq_true (by omega)
      have d1 : decide (0 < s.size) = true := decide_eq_true (by omega)
      by_cases h45 : s.data.toList.getD 0 0 = 45
      · have hi0 := idx0_45 s w (by omega) h45
        by_cases h1 : s.size = 1
        · have d2 : ((s.size : Int) == 1) = true := beq_iff_eq.2 (by omega)
          clear hbad h45 hh hs
          go_enter Tryd.func23, Tryd.ntmps23
          go_wp2_with fail
          go_ret2
          unfold NumPost
          rw [HNN.out]
          exact ⟨rfl, rfl⟩
        · have d2 : ((s.size : Int) == 1) = false := beq_eq_false_iff_ne.2 (by omega)
          have h6 : 6 < s.size := by
            by_cases h : s.size ≤ 6
            · exact absurd ⟨h, fun h9 => h1 h9.1⟩ hbad
            · omega
          have d4 : decide ((6 : Int) < (s.size : Int)) = true := decide_eq_true (by omega)
          have d5 : decide (6 < s.size) = true := decide_eq_true (by omega)
          clear hbad h45 hh hs h1
          go_enter Tryd.func23, Tryd.ntmps23
          go_wp2_with fail
          go_ret2
          unfold NumPost
          rw [HNN.out]
          exact ⟨rfl, rfl⟩
      · have hq := ne45 h45
        have h6 : 6 < s.size := by
          by_cases h : s.size ≤ 6
          · exact absurd ⟨h, fun h9 => h45 h9.2⟩ hbad
          · omega
        have hi0 := idx0 s w (by omega)
        have d6 : (((s.data.toList.getD 0 0).toNat : Int) == 45) = false := beq_eq_false_iff_ne.2 hq
        have d2 : ((s.size : Int) == 0) = false := beq_eq_false_iff_ne.2 (by omega)
        have d4 : decide ((6 : Int) < (s.size : Int)) = true := decide_eq_true (by omega)
        have d5 : decide (6 < s.size) = true := decide_eq_true (by omega)
        generalize (s.data.toList.getD 0 0).toNat = c0 at *
        clear hbad h45 hh hs hq
        go_enter Tryd.func23, Tryd.ntmps23
        go_wp2_with fail
        go_ret2
        unfold NumPost
        rw [HNN.out]
        exact ⟨rfl, rfl⟩
end Go.Proofs.YtjaeligjcgjamaaDoor.DRefNum
