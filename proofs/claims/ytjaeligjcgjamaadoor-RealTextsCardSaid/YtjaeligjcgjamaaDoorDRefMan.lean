/- What the reference's Parse answers, path by path. -/
import Derived.Test.YtjaeligjcgjamaaDoorDRefNum
import Derived.Test.YtjaeligjcgjamaaDoorDParseW
namespace Go.Proofs.YtjaeligjcgjamaaDoor.DRefMan
open Go.RowKit Go.Proofs.YtjaeligjcgjamaaDoor.PRealOrder Go.Proofs.YtjaeligjcgjamaaDoorW.PrintWords Go.Proofs.YtjaeligjcgjamaaDoorW.PrintLast Go.Proofs.YtjaeligjcgjamaaDoorW.PrintMore Go.Proofs.YtjaeligjcgjamaaDoor.Aid Go.Proofs.YtjaeligjcgjamaaDoor.FloatPlain Go.Proofs.YtjaeligjcgjamaaDoor.DRealPure Go.Proofs.YtjaeligjcgjamaaDoor.DHex Go.Proofs.YtjaeligjcgjamaaDoor.DUnhex Go.Proofs.YtjaeligjcgjamaaDoor.DUnhexAny Go.Proofs.YtjaeligjcgjamaaDoor.DWorks Go.Proofs.YtjaeligjcgjamaaDoor.DTxt Go.Proofs.YtjaeligjcgjamaaDoor.DTextW Go.Proofs.YtjaeligjcgjamaaDoor.DRefTxt Go.Proofs.YtjaeligjcgjamaaDoor.DRefNum Go.Proofs.YtjaeligjcgjamaaDoor.DParseW
set_option linter.unusedVariables false
set_option linter.unusedSimpArgs false
theorem or_add4 {x r : Nat} (hx : x < 4096) (hr : r < 4503599627370496) : Go.bits .or .u64 ((x * 4503599627370496 : Nat) : Int) (r : Int) = ((x * 4503599627370496 + r : Nat) : Int) := by
  have h1 := u64_or_nat (x * 4503599627370496) r (by omega) (by omega)
  rw [h1]
  have e2 : x * 4503599627370496 = 2 ^ 52 * x := by
    have : (2 : Nat) ^ 52 = 4503599627370496 := by decide
    rw [this, Nat.mul_comm]
  rw [e2, ← Nat.two_pow_add_eq_or_of_lt (by have : (2 : Nat) ^ 52 = 4503599627370496 := by decide
                                            omega) x]
theorem or_zero (r : Nat) (hr : r < 18446744073709551616) : Go.bits .or .u64 0 (r : Int) = (r : Int) := by
  have h1 := u64_or_nat 0 r (by omega) hr
  rw [Nat.zero_or] at h1
  exact h1
theorem or_sign (m : Nat) (h : m < 9223372036854775808) : Go.bits .or .u64 9223372036854775808 (m : Int) = ((m + 9223372036854775808 : Nat) : Int) := by
  have h1 := u64_or_nat 9223372036854775808 m (by omega) (by omega)
  refine h1.trans ?_
  have e : (2 : Nat) ^ 63 = 9223372036854775808 := by decide
  have := Nat.two_pow_add_eq_or_of_lt (i := 63) (b := m) (by omega) 1
  rw [e, Nat.mul_one] at this
  rw [← this]
  omega
theorem or_dig {f q k : Nat} (hk : k < 13) (hq : q < 16) (hf : f < 4503599627370496) (h0 : f % 16 ^ (13 - k) = 0) : Go.bits .or .u64 (f : Int) ((q * 16 ^ (12 - k) : Nat) : Int) = ((f + q * 16 ^ (12 - k) : Nat) : Int) ∧ f + q * 16 ^ (12 - k) < 4503599627370496 ∧ (f + q * 16 ^ (12 - k)) % 16 ^ (13 - (k + 1)) = 0 := by
  have e1 : (16 : Nat) ^ (13 - k) = 16 ^ (12 - k) * 16 := by
    rw [← Nat.pow_succ]
    congr 1
    omega
  have hp : 0 < 16 ^ (12 - k) := Nat.pow_pos (by decide)
  have hlt : q * 16 ^ (12 - k) < 16 ^ (13 - k) := by
    rw [e1, Nat.mul_comm]
    exact Nat.mul_lt_mul_of_pos_left hq hp
  obtain ⟨m, hm⟩ := Nat.dvd_of_mod_eq_zero h0
  have e2 : (16 : Nat) ^ (13 - k) = 2 ^ (4 * (13 - k)) := by
    rw [Nat.pow_mul]
  have h13 : (16 : Nat) ^ 13 = 4503599627370496 := by decide
  have hmk : m < 16 ^ k := by
    have h2 : 16 ^ (13 - k) * 16 ^ k = 4503599627370496 := by
      rw [← Nat.pow_add, show 13 - k + k = 13 by omega]
    have h3 : 16 ^ (13 - k) * m < 16 ^ (13 - k) * 16 ^ k := by omega
    exact Nat.lt_of_mul_lt_mul_left h3
  have hsum : f + q * 16 ^ (12 - k) < 4503599627370496 := by
    have h2 : 16 ^ (13 - k) * 16 ^ k = 4503599627370496 := by
      rw [← Nat.pow_add, show 13 - k + k = 13 by omega]
    have h3 : 16 ^ (13 - k) * (m + 1) ≤ 16 ^ (13 - k) * 16 ^ k := Nat.mul_le_mul_left _ hmk
    rw [Nat.mul_succ] at h3
    omega
  refine ⟨?_, hsum, ?_⟩
  · rw [u64_or_nat f _ (by omega) (by omega)]
    congr 1
    rw [hm, e2]
    rw [e2] at hlt
    exact (Nat.two_pow_add_eq_or_of_lt hlt m).symm
  · have e3 : 13 - (k + 1) = 12 - k := by omega
    rw [e3, hm, e1, Nat.mul_assoc, ← Nat.mul_comm (16 ^ (12 - k)) q, ← Nat.mul_add, Nat.mul_mod_right]
theorem shl_dig {k : Nat} {D : Int} (hk : k < 13) (h0 : 0 ≤ D) (h1 : D ≤ 15) : IntKind.u64.wrap (D * 2 ^ (48 - 4 * k)) = ((D.toNat * 16 ^ (12 - k) : Nat) : Int) := by
  have e : 48 - 4 * k = 4 * (12 - k) := by omega
  have hp : (16 : Nat) ^ (12 - k) ≤ 16 ^ 12 := Nat.pow_le_pow_right (by decide) (by omega)
  have h12 : (16 : Nat) ^ 12 = 281474976710656 := by decide
  have e2 : (2 : Int) ^ (4 * (12 - k)) = ((16 ^ (12 - k) : Nat) : Int) := by
    have : (16 : Nat) ^ (12 - k) = 2 ^ (4 * (12 - k)) := by
      rw [Nat.pow_mul]
    rw [this]
    simp
  have hx : D.toNat * 16 ^ (12 - k) ≤ 15 * 16 ^ (12 - k) := Nat.mul_le_mul_right _ (by omega)
  obtain ⟨d, rfl⟩ : ∃ d : Nat, D = (d : Int) := ⟨D.toNat, by omega⟩
  rw [e, e2, ← Int.natCast_mul, u64w]
  simp only [Int.toNat_natCast] at hx ⊢
  omega
/-- Where the loop ends, nothing more is added. -/
theorem scan_stop {k : Nat} {u : List UInt8} (h : k < 13 → ∀ c, u.head? = some c → dgv c < 0) : scan k u = (0, u) := by
  cases u with
  | nil => rfl
  | cons c u =>
    unfold scan
    rw [if_neg]
    rintro ⟨h1, h2⟩
    have := h h1 c rfl
    omega
theorem scan_go {k at_ : Nat} {T : List UInt8} (hk : k < 13) (hl : at_ < T.length) (hd : 0 ≤ dgv (T.getD at_ 0)) : (scan k (T.drop at_)).1 = (dgv (T.getD at_ 0)).toNat * 16 ^ (12 - k) + (scan (k + 1) (T.drop (at_ + 1))).1 ∧ (scan k (T.drop at_)).2 = (scan (k + 1) (T.drop (at_ + 1))).2 := by
  have e : T.drop at_ = T.getD at_ 0 :: T.drop (at_ + 1) := by
    rw [List.drop_eq_getElem_cons hl]
    congr 1
    simp [hl]
  rw [e]
  have h1 : scan k (T.getD at_ 0 :: T.drop (at_ + 1)) = ((dgv (T.getD at_ 0)).toNat * 16 ^ (12 - k) + (scan (k + 1) (T.drop (at_ + 1))).1, (scan (k + 1) (T.drop (at_ + 1))).2) := by
    conv => lhs; unfold scan
    rw [if_pos ⟨hk, hd⟩]
  rw [h1]
  exact ⟨rfl, rfl⟩
theorem stop_pair {X S : Nat × List UInt8} {f : Nat} {u : List UInt8} (hX : X = (0, u)) (h1 : f + X.1 = S.1) (h2 : X.2 = S.2) : S = (f, u) := by
  subst hX
  obtain ⟨a, b⟩ := S
  simp only [Nat.add_zero] at h1 h2
  rw [h1, h2]
theorem head_at {T : List UInt8} {i : Nat} (h : i < T.length) : (T.drop i).head? = some (T.getD i 0) := by
  rw [List.head?_drop, List.getD_eq_getElem?_getD, List.getElem?_eq_getElem h]
  rfl
theorem tail_at (s : ByteArray) (i : Nat) (w : World) (h : i ≤ s.data.toList.length) : (Instr.slice 9 (.string s) (some (.int .i64 (i : Int))) none none).run Tryd.prog w = .ok (.string ⟨(s.data.toList.drop i).toArray⟩) w := by
  have hs := Lib.size_eq s
  rw [run_slice_string_from_if w 9 s .i64 (i : Int) Tryd.underlying9, if_pos ⟨by omega, by omega⟩, Int.toNat_natCast, Lib.extract_from]
theorem head_two (s : ByteArray) (w : World) (h : 2 ≤ s.data.toList.length) : (Instr.slice 9 (.string s) none (some (.int .i64 2)) none).run Tryd.prog w = .ok (.string ⟨(s.data.toList.take 2).toArray⟩) w := by
  have hs := Lib.size_eq s
  rw [run_slice_string_to_if w 9 s .i64 2 Tryd.underlying9, if_pos ⟨by omega, by omega⟩]
  show Result.ok (Value.string (s.extract 0 2)) w = _
  rw [Lib.extract_upto]
/-- The reference's answer. -/
def Good (l : List UInt8) (w : World) (e : Ending) (w' : World) : Prop := (∃ (v : Nat) (er : Int), Ans l v er ∧ e = .returned (.tuple #[.int .u64 v, .int .i64 er])) ∧ Below w.heap.size w w'
set_option maxHeartbeats 3200000 in
set_option maxRecDepth 100000 in
theorem parse_short_n (s : ByteArray) (w : World) (hn : (s.toList == [110, 97, 110]) = false) (d0 : decide ((0 : Int) < (s.size : Int)) = true) (d0n : decide (0 < s.size) = true) (t : ByteArray) (hi0 : (Instr.index 9 (.string s) (.int .i64 0)).run Tryd.prog w = .ok (.int .u8 45) w) (hsl : (Instr.slice 9 (.string s) (some (.int .i64 1)) none none).run Tryd.prog w = .ok (.string t) w) (hz : (t.toList == [48]) = false) (hi : (t.toList == [105, 110, 102]) = false) (ht3 : t.data.toList.length ≤ 3) (HC : Aside0 (candR s.data.toList = none)) : Calls Tryd.prog 10 #[.string s] w (Good s.data.toList w) := by
  have hs := Lib.size_eq t
  have k1 : decide ((3 : Int) < (t.size : Int)) = false := decide_eq_false (by omega)
  have k2 : decide (3 < t.size) = false := decide_eq_false (by omega)
  clear hs ht3
  go_enter Tryd.func10, Tryd.ntmps10
  go_wp2_with fail
  go_ret2
  exact ⟨⟨0, 3, ansR_none HC.out, rfl⟩, Below.refl _ _⟩
set_option maxHeartbeats 3200000 in
set_option maxRecDepth 100000 in
theorem parse_long_n (s : ByteArray) (w : World) (hn : (s.toList == [110, 97, 110]) = false) (d0 : decide ((0 : Int) < (s.size : Int)) = true) (d0n : decide (0 < s.size) = true) (t : ByteArray) (hi0 : (Instr.index 9 (.string s) (.int .i64 0)).run Tryd.prog w = .ok (.int .u8 45) w) (hsl : (Instr.slice 9 (.string s) (some (.int .i64 1)) none none).run Tryd.prog w = .ok (.string t) w) (hz : (t.toList == [48]) = false) (hi : (t.toList == [105, 110, 102]) = false) (ht3 : 40 ≤ t.data.toList.length) (htm : t.data.toList.length ≤ 140737488355328) (HC : Aside0 (candR s.data.toList = none)) : Calls Tryd.prog 10 #[.string s] w (Good s.data.toList w) := by
  have hs := Lib.size_eq t
  have k1 : decide ((3 : Int) < (t.size : Int)) = true := decide_eq_true (by omega)
  have k2 : decide (3 < t.size) = true := decide_eq_true (by omega)
  have k3 : decide ((t.size : Int) < 40) = false := decide_eq_false (by omega)
  have k4 : decide (t.size < 40) = false := decide_eq_false (by omega)
  clear hs ht3
  go_enter Tryd.func10, Tryd.ntmps10
  go_wp2_with fail
  go_ret2
  exact ⟨⟨0, 3, ansR_none HC.out, rfl⟩, Below.refl _ _⟩
set_option maxHeartbeats 3200000 in
set_option maxRecDepth 100000 in
theorem parse_other_n (s : ByteArray) (w : World) (hn : (s.toList == [110, 97, 110]) = false) (d0 : decide ((0 : Int) < (s.size : Int)) = true) (d0n : decide (0 < s.size) = true) (t : ByteArray) (hi0 : (Instr.index 9 (.string s) (.int .i64 0)).run Tryd.prog w = .ok (.int .u8 45) w) (hsl : (Instr.slice 9 (.string s) (some (.int .i64 1)) none none).run Tryd.prog w = .ok (.string t) w) (hz : (t.toList == [48]) = false) (hi : (t.toList == [105, 110, 102]) = false) (ht3 : 3 < t.data.toList.length ∧ t.data.toList.length < 40) (htk : t.data.toList.take 2 ≠ [48, 120]) (HC : Aside0 (candR s.data.toList = none)) : Calls Tryd.prog 10 #[.string s] w (Good s.data.toList w) := by
  have hs := Lib.size_eq t
  have k1 : decide ((3 : Int) < (t.size : Int)) = true := decide_eq_true (by omega)
  have k2 : decide (3 < t.size) = true := decide_eq_true (by omega)
  have k3 : decide ((t.size : Int) < 40) = true := decide_eq_true (by omega)
  have k4 : decide (t.size < 40) = true := decide_eq_true (by omega)
  have h2 := head_two t w (by omega)
  generalize t.data.toList.take 2 = P2 at *
  have k5 : (P2 == [48, 120]) = false := beq_eq_false_iff_ne.2 htk
  clear htk
  clear hs ht3
  go_enter Tryd.func10, Tryd.ntmps10
  go_wp2_with fail
  go_ret2
  exact ⟨⟨0, 3, ansR_none HC.out, rfl⟩, Below.refl _ _⟩
set_option maxHeartbeats 3200000 in
set_option maxRecDepth 100000 in
theorem parse_man3_n (s : ByteArray) (w : World) (hn : (s.toList == [110, 97, 110]) = false) (d0 : decide ((0 : Int) < (s.size : Int)) = true) (d0n : decide (0 < s.size) = true) (t : ByteArray) (hi0 : (Instr.index 9 (.string s) (.int .i64 0)).run Tryd.prog w = .ok (.int .u8 45) w) (hsl : (Instr.slice 9 (.string s) (some (.int .i64 1)) none none).run Tryd.prog w = .ok (.string t) w) (hz : (t.toList == [48]) = false) (hi : (t.toList == [105, 110, 102]) = false) (ht3 : 3 < t.data.toList.length ∧ t.data.toList.length < 40) (htk : t.data.toList.take 2 = [48, 120]) (hc3 : t.data.toList.getD 3 0 ≠ 46) (HCA : Aside0 (candR s.data.toList = (manR t.data.toList).map fun m => m + 9223372036854775808)) : Calls Tryd.prog 10 #[.string s] w (Good s.data.toList w) := by
  have HTT : Aside0 (s.toList = s.data.toList) := ⟨Lib.toList_data s⟩
  have hs := Lib.size_eq t
  have k1 : decide ((3 : Int) < (t.size : Int)) = true := decide_eq_true (by omega)
  have k2 : decide (3 < t.size) = true := decide_eq_true (by omega)
  have k3 : decide ((t.size : Int) < 40) = true := decide_eq_true (by omega)
  have k4 : decide (t.size < 40) = true := decide_eq_true (by omega)
  have h2 := head_two t w (by omega)
  rw [htk] at h2
  have h2b : (Instr.slice 9 (.string t) none (some (.int .i64 2)) none).run Tryd.prog w = .ok (.string ⟨#[48, 120]⟩) w := h2
  have HST : Aside0 (DRefTxt.start t.data.toList = t.data.toList.drop 3) := ⟨by
    unfold DRefTxt.start
    have h4 : t.data.toList[3]? = some (t.data.toList.getD 3 0) := by
      rw [List.getD_eq_getElem?_getD, List.getElem?_eq_getElem (by omega)]
      rfl
    rw [h4, if_neg (fun h => hc3 (Option.some.inj h))]⟩
  have h3 : (Instr.index 9 (.string t) (.int .i64 3)).run Tryd.prog w = .ok (.int .u8 ((t.data.toList.getD 3 0).toNat : Int)) w := idx t 3 w (by omega)
  have hne3 : ((t.data.toList.getD 3 0).toNat : Int) ≠ 46 := fun h => hc3 (UInt8.toNat_inj.1 (by
    have : (46 : UInt8).toNat = 46 := rfl
    omega))
  have d46 : (((t.data.toList.getD 3 0).toNat : Int) == 46) = false := beq_eq_false_iff_ne.2 hne3
  generalize (t.data.toList.getD 3 0).toNat = c3 at *
  clear hne3
  have HLN := Aside0.mk ht3
  have HS := Aside0.mk hs
  clear hs ht3 htk hc3 h2
  go_enter Tryd.func10, Tryd.ntmps10
  go_wp2_with fail
  clear k1 k2 k3 k4 hz hi hn d0 d0n h2b h3 hi0 hsl d46
  go_loop [6, 7, 8] (fun sa sf sk => ∃ a k f : Nat, 3 ≤ a ∧ a ≤ t.size ∧ k ≤ 13 ∧ f < 4503599627370496 ∧ sa = .int .i64 a ∧ sf = .int .u64 f ∧ sk = .int .i64 k ∧ Aside0 (f % 16 ^ (13 - k) = 0) ∧ Aside0 (f + (scan k (t.data.toList.drop a)).1 = (scan 0 (DRefTxt.start t.data.toList)).1) ∧ Aside0 ((scan k (t.data.toList.drop a)).2 = (scan 0 (DRefTxt.start t.data.toList)).2)) (fun sa _ _ => t.size - (intOf sa).toNat)
  case atStart => exact ⟨3, 0, 0, by omega, by have := HLN.out; have := HS.out; omega, by omega, by omega, rfl, rfl, rfl, ⟨Nat.zero_mod _⟩, ⟨by rw [HST.out, Nat.zero_add]⟩, ⟨by rw [HST.out]⟩⟩
  case round =>
    obtain ⟨a, k, f, ha, has, hk, hf, rfl, rfl, rfl, HM, H1, H2⟩ := hrel
    have h40 : t.size < 40 := by
      have := HLN.out
      have := HS.out
      omega
    have hlen : t.data.toList.length = t.size := HS.out.symm
    by_cases hlt : a < t.size
    · have hal : a < t.data.toList.length := by omega
      have d1 : decide ((a : Int) < (t.size : Int)) = true := decide_eq_true (by omega)
      have d2 : decide (a < t.size) = true := decide_eq_true hlt
      have hix := idx t a w hal
      have hhd := head_at (T := t.data.toList) (i := a) hal
      have hgo0 := fun (h1 : k < 13) => scan_go (T := t.data.toList) h1 hal
      generalize hcd : t.data.toList.getD a 0 = c at *
      by_cases hk13 : k < 13
      · have d3 : decide ((k : Int) < 13) = true := decide_eq_true (by omega)
        have d4 : decide (k < 13) = true := decide_eq_true hk13
        by_cases hd : 0 ≤ dgv c
        · have d5 : decide (0 ≤ dgv c) = true := decide_eq_true hd
          have hd15 := dgv_le c
          have hgo := hgo0 hk13 hd
          obtain ⟨o1, o2, o3⟩ := or_dig (f := f) (q := (dgv c).toNat) hk13 (by omega) hf HM.out
          have hsh := shl_dig hk13 hd hd15
          have HM2 := Aside0.mk o3
          have HA1 : Aside0 (f + (dgv c).toNat * 16 ^ (12 - k) + (scan (k + 1) (t.data.toList.drop (a + 1))).1 = (scan 0 (DRefTxt.start t.data.toList)).1) := ⟨by
            have h5 := H1.out
            rw [hgo.1] at h5
            omega⟩
          have HA2 : Aside0 ((scan (k + 1) (t.data.toList.drop (a + 1))).2 = (scan 0 (DRefTxt.start t.data.toList)).2) := ⟨by
            rw [← hgo.2]
            exact H2.out⟩
          have x1 : IntKind.u64.wrap (dgv c) = dgv c := by
            rw [u64w]
            omega
          have x2 : IntKind.i64.wrap (4 * (k : Int)) = 4 * (k : Int) := (i64_w _).trans (w64 (by omega) (by omega))
          have x3 : IntKind.i64.wrap (48 - 4 * (k : Int)) = 48 - 4 * (k : Int) := (i64_w _).trans (w64 (by omega) (by omega))
          have x4 : IntKind.i64.wrap ((k : Int) + 1) = (k : Int) + 1 := (i64_w _).trans (w64 (by omega) (by omega))
          have x5 : IntKind.i64.wrap ((a : Int) + 1) = (a : Int) + 1 := (i64_w _).trans (w64 (by omega) (by omega))
          clear H1 H2 HM o3 hgo hgo0 hal hlen hhd hcd
          have HDC : Aside0 (∀ w, Calls Tryd.prog 22 #[.int .u8 (c.toNat : Int)] w fun e w' => e = .returned (.int .i64 (dgv c)) ∧ w' = w) := ⟨fun w => digit_calls _ w⟩
          generalize (dgv c).toNat * 16 ^ (12 - k) = q at *
          generalize dgv c = D at *
          generalize c.toNat = cn at *
          go_wp2_with (go_at_call 22; refine (HDC.out _).mono ?_; rintro e w' ⟨rfl, hw'⟩; obtain rfl := hw'.symm)
          go_round
          case rel => exact ⟨a + 1, k + 1, f + q, by omega, by omega, by omega, o2, by first | rfl | go_num, by first | rfl | go_num, by first | rfl | go_num, HM2, HA1, HA2⟩
          case measure =>
            simp [intOf]
            omega
        · have d5 : decide (0 ≤ dgv c) = false := decide_eq_false hd
          have hst := scan_stop (k := k) (u := t.data.toList.drop a) (fun _ c hc => by rw [hhd] at hc; rw [← Option.some.inj hc]; omega)
          have HSC : Aside0 (scan 0 (DRefTxt.start t.data.toList) = (f, t.data.toList.drop a)) := ⟨stop_pair hst H1.out H2.out⟩
          have HDC : Aside0 (∀ w, Calls Tryd.prog 22 #[.int .u8 (c.toNat : Int)] w fun e w' => e = .returned (.int .i64 (dgv c)) ∧ w' = w) := ⟨fun w => digit_calls _ w⟩
          clear H1 H2 HM hst hd hgo0
          have hixx := hix
          generalize hD : dgv c = D at *
          have HDD0 := Aside0.mk hD
          clear hD
          have hc0 := Aside0.mk hhd
          by_cases h112 : c = 112
          · have d112 : ((c.toNat : Int) == 112) = true := by
              rw [h112]
              rfl
            have HEX : Aside0 (manR t.data.toList = match numR (t.data.toList.drop (a + 1)) with
              | some e => if -1022 ≤ e ∧ e ≤ 1023 then some ((if t.data.toList[2]? = some 49 then (e + 1023).toNat * 4503599627370496 else 0) + f) else none
              | none => none) := ⟨by
                unfold manR
                rw [HSC.out]
                have h3 : expR (t.data.toList.drop a) = numR (t.data.toList.drop (a + 1)) := by
                  unfold expR
                  rw [hc0.out, h112, if_pos rfl, List.drop_drop]
                simp only
                rw [h3]
                rfl⟩
            clear h112 hc0 HSC hhd hcd
            generalize c.toNat = cn at *
            have HDD : Aside0 ((t.extract (a + 1) t.size).data.toList = t.data.toList.drop (a + 1)) := ⟨Lib.extract_to_end t (a + 1)⟩
            have HSZ2 : Aside0 ((t.extract (a + 1) t.size).size ≤ 140737488355328) := ⟨by
              rw [Lib.size_eq, HDD.out, List.length_drop]
              omega⟩
            have ew1 : IntKind.i64.wrap ((a : Int) + 1) = (a : Int) + 1 := (i64_w _).trans (w64 (by omega) (by omega))
            go_wp2_with (go_at_call 22; refine (HDC.out _).mono ?_; rintro e w' ⟨rfl, hw'⟩; obtain rfl := hw'.symm)
            refine (number_calls (t.extract (a + 1) t.size) w HSZ2.out).mono ?_
            unfold DRefNum.NumPost
            rw [HDD.out]
            rintro e w3 ⟨rfl, rfl⟩
            cases hU : numR (t.data.toList.drop (a + 1)) with
            | none =>
              have HC : Aside0 (candR s.data.toList = none) := ⟨by
                rw [HCA.out, HEX.out, hU]
                rfl⟩
              simp only [Option.getD_none, Option.isSome_none]
              clear HEX hU
              go_wp2_with fail
              go_ret2
              exact ⟨⟨0, 3, ansR_none HC.out, rfl⟩, Below.refl _ _⟩
            | some e =>
              simp only [Option.getD_some, Option.isSome_some]
              rw [hU] at HEX
              by_cases h1 : e < -1022
              · have HC : Aside0 (candR s.data.toList = none) := ⟨by
                  rw [HCA.out, HEX.out]
                  simp only
                  rw [if_neg (by omega)]
                  rfl⟩
                have q1 : decide (e < -1022) = true := decide_eq_true h1
                clear HEX hU h1
                go_wp2_with fail
                go_ret2
                exact ⟨⟨0, 3, ansR_none HC.out, rfl⟩, Below.refl _ _⟩
              · have q1 : decide (e < -1022) = false := decide_eq_false h1
                by_cases h2 : 1023 < e
                · have HC : Aside0 (candR s.data.toList = none) := ⟨by
                    rw [HCA.out, HEX.out]
                    simp only
                    rw [if_neg (by omega)]
                    rfl⟩
                  have q2 : decide (1023 < e) = true := decide_eq_true h2
                  clear HEX hU h1 h2
                  go_wp2_with fail
                  go_ret2
                  exact ⟨⟨0, 3, ansR_none HC.out, rfl⟩, Below.refl _ _⟩
                · have q2 : decide (1023 < e) = false := decide_eq_false h2
                  obtain ⟨X, hX⟩ : ∃ X : Nat, (X : Int) = e + 1023 := ⟨(e + 1023).toNat, by omega⟩
                  have eX : (e + 1023).toNat = X := by omega
                  have r1 : IntKind.i64.wrap (e + 1023) = (X : Int) := by rw [i64_w, w64 (by omega) (by omega)]; omega
                  have r2 : IntKind.u64.wrap (X : Int) = (X : Int) := by
                    rw [u64w]
                    omega
                  obtain ⟨XX, hXX⟩ : ∃ XX, X * 4503599627370496 = XX := ⟨_, rfl⟩
                  have r3 : IntKind.u64.wrap ((X : Int) * 4503599627370496) = (XX : Int) := by
                    rw [u64w]
                    omega
                  have HXL : Aside0 (X < 2047) := ⟨by omega⟩
                  by_cases h49 : t.data.toList.getD 2 0 = 49
                  · have hi2 : (Instr.index 9 (.string t) (.int .i64 2)).run Tryd.prog w3 = .ok (.int .u8 49) w3 := by
                      have := idx t 2 w3 (by omega)
                      rw [h49] at this
                      exact this
                    obtain ⟨Y, hY⟩ : ∃ Y, XX + f + 9223372036854775808 = Y := ⟨_, rfl⟩
                    have HC : Aside0 (candR s.data.toList = some Y) := ⟨by
                      rw [HCA.out, HEX.out]
                      simp only
                      rw [if_pos ⟨by omega, by omega⟩, if_pos (by rw [List.getElem?_eq_getElem (by omega)]; rw [List.getD_eq_getElem?_getD, List.getElem?_eq_getElem (by omega)] at h49; exact congrArg some h49), eX, hXX, ← hY]
                      rfl⟩
                    obtain ⟨Z, hZ⟩ : ∃ Z, (X + 2048) * 4503599627370496 = Z := ⟨_, rfl⟩
                    have o1 : Go.bits .or .u64 9223372036854775808 (XX : Int) = (Z : Int) := by
                      rw [or_sign _ (by omega)]
                      omega
                    have o2 : Go.bits .or .u64 (Z : Int) (f : Int) = (Y : Int) := by
                      have h5 := or_add4 (x := X + 2048) (r := f) (by omega) hf
                      rw [hZ] at h5
                      rw [h5]
                      omega
                    have HYL : Aside0 (Y < 18446744073709551616) := ⟨by omega⟩
                    clear HEX hU h1 h2 eX h49
                    clear hZ
                    clear hY hXX hX
                    go_wp2_with fail
                    refine (DRefText.text_calls Y (by have := HYL.out; omega) _).mono ?_
                    rintro e w9 ⟨rfl, hB⟩
                    have HB9 := Aside0.mk hB
                    clear hB
                    by_cases ht : txt Y = s.data.toList
                    · have d7 : (txt Y == s.toList) = true := by rw [HTT.out, ht]; exact beq_self_eq_true _
                      have d8 : (txt Y != s.toList) = false := by rw [bne, d7]; rfl
                      have HT := Aside0.mk ht
                      clear ht
                      go_wp2_with fail
                      go_ret2
                      exact ⟨⟨Y, 0, ansR_some HC.out HT.out, rfl⟩, HB9.out⟩
                    · have d7 : (txt Y == s.toList) = false := by rw [HTT.out]; exact beq_eq_false_iff_ne.2 ht
                      have d8 : (txt Y != s.toList) = true := by rw [bne, d7]; rfl
                      have HT := Aside0.mk ht
                      clear ht
                      go_wp2_with fail
                      go_ret2
                      exact ⟨⟨0, 3, ansR_bad HC.out HT.out, rfl⟩, HB9.out⟩
                  · have hi2 := idx t 2 w3 (by omega)
                    have hi3 : (Instr.index 9 (.string t) (.int .i64 2)).run Tryd.prog w3 = .ok (.int .u8 ((t.data.toList.getD 2 0).toNat : Int)) w3 := hi2
                    have hne : ((t.data.toList.getD 2 0).toNat : Int) ≠ 49 := fun h => h49 (UInt8.toNat_inj.1 (by
                      have : (49 : UInt8).toNat = 49 := rfl
                      omega))
                    have d49 : (((t.data.toList.getD 2 0).toNat : Int) == 49) = false := beq_eq_false_iff_ne.2 hne
                    obtain ⟨Y, hY⟩ : ∃ Y, f + 9223372036854775808 = Y := ⟨_, rfl⟩
                    have HC : Aside0 (candR s.data.toList = some Y) := ⟨by
                      rw [HCA.out, HEX.out]
                      simp only
                      rw [if_pos ⟨by omega, by omega⟩, if_neg (by rw [List.getElem?_eq_getElem (by omega)]; rw [List.getD_eq_getElem?_getD, List.getElem?_eq_getElem (by omega)] at h49; exact fun h => h49 (Option.some.inj h)), Nat.zero_add, ← hY]
                      rfl⟩
                    have o1 : Go.bits .or .u64 9223372036854775808 (f : Int) = (Y : Int) := by
                      rw [or_sign _ (by omega)]
                      omega
                    have HYL : Aside0 (Y < 18446744073709551616) := ⟨by omega⟩
                    clear hi2
                    generalize (t.data.toList.getD 2 0).toNat = c2 at *
                    clear HEX hU h1 h2 eX h49 hne
                    clear hY hXX hX
                    go_wp2_with fail
                    refine (DRefText.text_calls Y (by have := HYL.out; omega) _).mono ?_
                    rintro e w9 ⟨rfl, hB⟩
                    have HB9 := Aside0.mk hB
                    clear hB
                    by_cases ht : txt Y = s.data.toList
                    · have d7 : (txt Y == s.toList) = true := by rw [HTT.out, ht]; exact beq_self_eq_true _
                      have d8 : (txt Y != s.toList) = false := by rw [bne, d7]; rfl
                      have HT := Aside0.mk ht
                      clear ht
                      go_wp2_with fail
                      go_ret2
                      exact ⟨⟨Y, 0, ansR_some HC.out HT.out, rfl⟩, HB9.out⟩
                    · have d7 : (txt Y == s.toList) = false := by rw [HTT.out]; exact beq_eq_false_iff_ne.2 ht
                      have d8 : (txt Y != s.toList) = true := by rw [bne, d7]; rfl
                      have HT := Aside0.mk ht
                      clear ht
                      go_wp2_with fail
                      go_ret2
                      exact ⟨⟨0, 3, ansR_bad HC.out HT.out, rfl⟩, HB9.out⟩
          · have hne : (c.toNat : Int) ≠ 112 := fun h => h112 (UInt8.toNat_inj.1 (by
              have : (112 : UInt8).toNat = 112 := rfl
              omega))
            have d112 : ((c.toNat : Int) == 112) = false := beq_eq_false_iff_ne.2 hne
            have HC : Aside0 (candR s.data.toList = none) := ⟨by
              rw [HCA.out]
              unfold manR
              rw [HSC.out]
              have h3 : expR (t.data.toList.drop a) = none := by
                unfold expR
                rw [hc0.out, if_neg (fun h => h112 (Option.some.inj h))]
              simp only
              rw [h3]
              rfl⟩
            clear hc0 HSC h112 hhd hcd
            generalize c.toNat = cn at *
            clear hne
            go_wp2_with (go_at_call 22; refine (HDC.out _).mono ?_; rintro e w' ⟨rfl, hw'⟩; obtain rfl := hw'.symm)
            go_ret2
            exact ⟨⟨0, 3, ansR_none HC.out, rfl⟩, Below.refl _ _⟩
      · have d3 : decide ((k : Int) < 13) = false := decide_eq_false (by omega)
        have d4 : decide (k < 13) = false := decide_eq_false hk13
        have hst := scan_stop (k := k) (u := t.data.toList.drop a) (fun h => absurd h hk13)
        have HSC : Aside0 (scan 0 (DRefTxt.start t.data.toList) = (f, t.data.toList.drop a)) := ⟨stop_pair hst H1.out H2.out⟩
        clear H1 H2 HM hst hgo0
        have hc0 := Aside0.mk hhd
        by_cases h112 : c = 112
        · have d112 : ((c.toNat : Int) == 112) = true := by
            rw [h112]
            rfl
          have HEX : Aside0 (manR t.data.toList = match numR (t.data.toList.drop (a + 1)) with
            | some e => if -1022 ≤ e ∧ e ≤ 1023 then some ((if t.data.toList[2]? = some 49 then (e + 1023).toNat * 4503599627370496 else 0) + f) else none
            | none => none) := ⟨by
              unfold manR
              rw [HSC.out]
              have h3 : expR (t.data.toList.drop a) = numR (t.data.toList.drop (a + 1)) := by
                unfold expR
                rw [hc0.out, h112, if_pos rfl, List.drop_drop]
              simp only
              rw [h3]
              rfl⟩
          clear h112 hc0 HSC hhd hcd
          generalize c.toNat = cn at *
          have HDD : Aside0 ((t.extract (a + 1) t.size).data.toList = t.data.toList.drop (a + 1)) := ⟨Lib.extract_to_end t (a + 1)⟩
          have HSZ2 : Aside0 ((t.extract (a + 1) t.size).size ≤ 140737488355328) := ⟨by
            rw [Lib.size_eq, HDD.out, List.length_drop]
            omega⟩
          have ew1 : IntKind.i64.wrap ((a : Int) + 1) = (a : Int) + 1 := (i64_w _).trans (w64 (by omega) (by omega))
          go_wp2_with fail
          refine (number_calls (t.extract (a + 1) t.size) w HSZ2.out).mono ?_
          unfold DRefNum.NumPost
          rw [HDD.out]
          rintro e w3 ⟨rfl, rfl⟩
          cases hU : numR (t.data.toList.drop (a + 1)) with
          | none =>
            have HC : Aside0 (candR s.data.toList = none) := ⟨by
              rw [HCA.out, HEX.out, hU]
              rfl⟩
            simp only [Option.getD_none, Option.isSome_none]
            clear HEX hU
            go_wp2_with fail
            go_ret2
            exact ⟨⟨0, 3, ansR_none HC.out, rfl⟩, Below.refl _ _⟩
          | some e =>
            simp only [Option.getD_some, Option.isSome_some]
            rw [hU] at HEX
            by_cases h1 : e < -1022
            · have HC : Aside0 (candR s.data.toList = none) := ⟨by
                rw [HCA.out, HEX.out]
                simp only
                rw [if_neg (by omega)]
                rfl⟩
              have q1 : decide (e < -1022) = true := decide_eq_true h1
              clear HEX hU h1
              go_wp2_with fail
              go_ret2
              exact ⟨⟨0, 3, ansR_none HC.out, rfl⟩, Below.refl _ _⟩
            · have q1 : decide (e < -1022) = false := decide_eq_false h1
              by_cases h2 : 1023 < e
              · have HC : Aside0 (candR s.data.toList = none) := ⟨by
                  rw [HCA.out, HEX.out]
                  simp only
                  rw [if_neg (by omega)]
                  rfl⟩
                have q2 : decide (1023 < e) = true := decide_eq_true h2
                clear HEX hU h1 h2
                go_wp2_with fail
                go_ret2
                exact ⟨⟨0, 3, ansR_none HC.out, rfl⟩, Below.refl _ _⟩
              · have q2 : decide (1023 < e) = false := decide_eq_false h2
                obtain ⟨X, hX⟩ : ∃ X : Nat, (X : Int) = e + 1023 := ⟨(e + 1023).toNat, by omega⟩
                have eX : (e + 1023).toNat = X := by omega
                have r1 : IntKind.i64.wrap (e + 1023) = (X : Int) := by rw [i64_w, w64 (by omega) (by omega)]; omega
                have r2 : IntKind.u64.wrap (X : Int) = (X : Int) := by
                  rw [u64w]
                  omega
                obtain ⟨XX, hXX⟩ : ∃ XX, X * 4503599627370496 = XX := ⟨_, rfl⟩
                have r3 : IntKind.u64.wrap ((X : Int) * 4503599627370496) = (XX : Int) := by
                  rw [u64w]
                  omega
                have HXL : Aside0 (X < 2047) := ⟨by omega⟩
                by_cases h49 : t.data.toList.getD 2 0 = 49
                · have hi2 : (Instr.index 9 (.string t) (.int .i64 2)).run Tryd.prog w3 = .ok (.int .u8 49) w3 := by
                    have := idx t 2 w3 (by omega)
                    rw [h49] at this
                    exact this
                  obtain ⟨Y, hY⟩ : ∃ Y, XX + f + 9223372036854775808 = Y := ⟨_, rfl⟩
                  have HC : Aside0 (candR s.data.toList = some Y) := ⟨by
                    rw [HCA.out, HEX.out]
                    simp only
                    rw [if_pos ⟨by omega, by omega⟩, if_pos (by rw [List.getElem?_eq_getElem (by omega)]; rw [List.getD_eq_getElem?_getD, List.getElem?_eq_getElem (by omega)] at h49; exact congrArg some h49), eX, hXX, ← hY]
                    rfl⟩
                  obtain ⟨Z, hZ⟩ : ∃ Z, (X + 2048) * 4503599627370496 = Z := ⟨_, rfl⟩
                  have o1 : Go.bits .or .u64 9223372036854775808 (XX : Int) = (Z : Int) := by
                    rw [or_sign _ (by omega)]
                    omega
                  have o2 : Go.bits .or .u64 (Z : Int) (f : Int) = (Y : Int) := by
                    have h5 := or_add4 (x := X + 2048) (r := f) (by omega) hf
                    rw [hZ] at h5
                    rw [h5]
                    omega
                  have HYL : Aside0 (Y < 18446744073709551616) := ⟨by omega⟩
                  clear HEX hU h1 h2 eX h49
                  clear hZ
                  clear hY hXX hX
                  go_wp2_with fail
                  refine (DRefText.text_calls Y (by have := HYL.out; omega) _).mono ?_
                  rintro e w9 ⟨rfl, hB⟩
                  have HB9 := Aside0.mk hB
                  clear hB
                  by_cases ht : txt Y = s.data.toList
                  · have d7 : (txt Y == s.toList) = true := by rw [HTT.out, ht]; exact beq_self_eq_true _
                    have d8 : (txt Y != s.toList) = false := by rw [bne, d7]; rfl
                    have HT := Aside0.mk ht
                    clear ht
                    go_wp2_with fail
                    go_ret2
                    exact ⟨⟨Y, 0, ansR_some HC.out HT.out, rfl⟩, HB9.out⟩
                  · have d7 : (txt Y == s.toList) = false := by rw [HTT.out]; exact beq_eq_false_iff_ne.2 ht
                    have d8 : (txt Y != s.toList) = true := by rw [bne, d7]; rfl
                    have HT := Aside0.mk ht
                    clear ht
                    go_wp2_with fail
                    go_ret2
                    exact ⟨⟨0, 3, ansR_bad HC.out HT.out, rfl⟩, HB9.out⟩
                · have hi2 := idx t 2 w3 (by omega)
                  have hi3 : (Instr.index 9 (.string t) (.int .i64 2)).run Tryd.prog w3 = .ok (.int .u8 ((t.data.toList.getD 2 0).toNat : Int)) w3 := hi2
                  have hne : ((t.data.toList.getD 2 0).toNat : Int) ≠ 49 := fun h => h49 (UInt8.toNat_inj.1 (by
                    have : (49 : UInt8).toNat = 49 := rfl
                    omega))
                  have d49 : (((t.data.toList.getD 2 0).toNat : Int) == 49) = false := beq_eq_false_iff_ne.2 hne
                  obtain ⟨Y, hY⟩ : ∃ Y, f + 9223372036854775808 = Y := ⟨_, rfl⟩
                  have HC : Aside0 (candR s.data.toList = some Y) := ⟨by
                    rw [HCA.out, HEX.out]
                    simp only
                    rw [if_pos ⟨by omega, by omega⟩, if_neg (by rw [List.getElem?_eq_getElem (by omega)]; rw [List.getD_eq_getElem?_getD, List.getElem?_eq_getElem (by omega)] at h49; exact fun h => h49 (Option.some.inj h)), Nat.zero_add, ← hY]
                    rfl⟩
                  have o1 : Go.bits .or .u64 9223372036854775808 (f : Int) = (Y : Int) := by
                    rw [or_sign _ (by omega)]
                    omega
                  have HYL : Aside0 (Y < 18446744073709551616) := ⟨by omega⟩
                  clear hi2
                  generalize (t.data.toList.getD 2 0).toNat = c2 at *
                  clear HEX hU h1 h2 eX h49 hne
                  clear hY hXX hX
                  go_wp2_with fail
                  refine (DRefText.text_calls Y (by have := HYL.out; omega) _).mono ?_
                  rintro e w9 ⟨rfl, hB⟩
                  have HB9 := Aside0.mk hB
                  clear hB
                  by_cases ht : txt Y = s.data.toList
                  · have d7 : (txt Y == s.toList) = true := by rw [HTT.out, ht]; exact beq_self_eq_true _
                    have d8 : (txt Y != s.toList) = false := by rw [bne, d7]; rfl
                    have HT := Aside0.mk ht
                    clear ht
                    go_wp2_with fail
                    go_ret2
                    exact ⟨⟨Y, 0, ansR_some HC.out HT.out, rfl⟩, HB9.out⟩
                  · have d7 : (txt Y == s.toList) = false := by rw [HTT.out]; exact beq_eq_false_iff_ne.2 ht
                    have d8 : (txt Y != s.toList) = true := by rw [bne, d7]; rfl
                    have HT := Aside0.mk ht
                    clear ht
                    go_wp2_with fail
                    go_ret2
                    exact ⟨⟨0, 3, ansR_bad HC.out HT.out, rfl⟩, HB9.out⟩
        · have hne : (c.toNat : Int) ≠ 112 := fun h => h112 (UInt8.toNat_inj.1 (by
            have : (112 : UInt8).toNat = 112 := rfl
            omega))
          have d112 : ((c.toNat : Int) == 112) = false := beq_eq_false_iff_ne.2 hne
          have HC : Aside0 (candR s.data.toList = none) := ⟨by
            rw [HCA.out]
            unfold manR
            rw [HSC.out]
            have h3 : expR (t.data.toList.drop a) = none := by
              unfold expR
              rw [hc0.out, if_neg (fun h => h112 (Option.some.inj h))]
            simp only
            rw [h3]
            rfl⟩
          clear hc0 HSC h112 hhd hcd
          generalize c.toNat = cn at *
          clear hne
          go_wp2_with fail
          go_ret2
          exact ⟨⟨0, 3, ansR_none HC.out, rfl⟩, Below.refl _ _⟩
    · obtain rfl : a = t.size := by omega
      have d1 : decide ((t.size : Int) < (t.size : Int)) = false := decide_eq_false (by omega)
      have hst := scan_stop (k := k) (u := t.data.toList.drop t.size) (fun _ c hc => by rw [← hlen, List.drop_length] at hc; cases hc)
      have HC : Aside0 (candR s.data.toList = none) := ⟨by
        have HSC : scan 0 (DRefTxt.start t.data.toList) = (f, t.data.toList.drop t.size) := stop_pair hst H1.out H2.out
        rw [HCA.out]
        unfold manR
        rw [HSC]
        have h3 : expR (t.data.toList.drop t.size) = none := by
          rw [← hlen, List.drop_length]
          rfl
        simp only
        rw [h3]
        rfl⟩
      clear H1 H2 HM hst hlt
      go_wp2_with fail
      go_ret2
      exact ⟨⟨0, 3, ansR_none HC.out, rfl⟩, Below.refl _ _⟩
set_option maxHeartbeats 3200000 in
set_option maxRecDepth 100000 in
theorem parse_man4_n (s : ByteArray) (w : World) (hn : (s.toList == [110, 97, 110]) = false) (d0 : decide ((0 : Int) < (s.size : Int)) = true) (d0n : decide (0 < s.size) = true) (t : ByteArray) (hi0 : (Instr.index 9 (.string s) (.int .i64 0)).run Tryd.prog w = .ok (.int .u8 45) w) (hsl : (Instr.slice 9 (.string s) (some (.int .i64 1)) none none).run Tryd.prog w = .ok (.string t) w) (hz : (t.toList == [48]) = false) (hi : (t.toList == [105, 110, 102]) = false) (ht3 : 3 < t.data.toList.length ∧ t.data.toList.length < 40) (htk : t.data.toList.take 2 = [48, 120]) (hc3 : t.data.toList.getD 3 0 = 46) (HCA : Aside0 (candR s.data.toList = (manR t.data.toList).map fun m => m + 9223372036854775808)) : Calls Tryd.prog 10 #[.string s] w (Good s.data.toList w) := by
  have HTT : Aside0 (s.toList = s.data.toList) := ⟨Lib.toList_data s⟩
  have hs := Lib.size_eq t
  have k1 : decide ((3 : Int) < (t.size : Int)) = true := decide_eq_true (by omega)
  have k2 : decide (3 < t.size) = true := decide_eq_true (by omega)
  have k3 : decide ((t.size : Int) < 40) = true := decide_eq_true (by omega)
  have k4 : decide (t.size < 40) = true := decide_eq_true (by omega)
  have h2 := head_two t w (by omega)
  rw [htk] at h2
  have h2b : (Instr.slice 9 (.string t) none (some (.int .i64 2)) none).run Tryd.prog w = .ok (.string ⟨#[48, 120]⟩) w := h2
  have HST : Aside0 (DRefTxt.start t.data.toList = t.data.toList.drop 4) := ⟨by
    unfold DRefTxt.start
    have h4 : t.data.toList[3]? = some (t.data.toList.getD 3 0) := by
      rw [List.getD_eq_getElem?_getD, List.getElem?_eq_getElem (by omega)]
      rfl
    rw [h4, if_pos (congrArg some hc3)]⟩
  have h3 : (Instr.index 9 (.string t) (.int .i64 3)).run Tryd.prog w = .ok (.int .u8 46) w := by
    have := idx t 3 w (by omega)
    rw [hc3] at this
    exact this
  have HLN := Aside0.mk ht3
  have HS := Aside0.mk hs
  clear hs ht3 htk hc3 h2
  go_enter Tryd.func10, Tryd.ntmps10
  go_wp2_with fail
  clear k1 k2 k3 k4 hz hi hn d0 d0n h2b h3 hi0 hsl
  go_loop [6, 7, 8] (fun sa sf sk => ∃ a k f : Nat, 4 ≤ a ∧ a ≤ t.size ∧ k ≤ 13 ∧ f < 4503599627370496 ∧ sa = .int .i64 a ∧ sf = .int .u64 f ∧ sk = .int .i64 k ∧ Aside0 (f % 16 ^ (13 - k) = 0) ∧ Aside0 (f + (scan k (t.data.toList.drop a)).1 = (scan 0 (DRefTxt.start t.data.toList)).1) ∧ Aside0 ((scan k (t.data.toList.drop a)).2 = (scan 0 (DRefTxt.start t.data.toList)).2)) (fun sa _ _ => t.size - (intOf sa).toNat)
  case atStart => exact ⟨4, 0, 0, by omega, by have := HLN.out; have := HS.out; omega, by omega, by omega, rfl, rfl, rfl, ⟨Nat.zero_mod _⟩, ⟨by rw [HST.out, Nat.zero_add]⟩, ⟨by rw [HST.out]⟩⟩
  case round =>
    obtain ⟨a, k, f, ha, has, hk, hf, rfl, rfl, rfl, HM, H1, H2⟩ := hrel
    have h40 : t.size < 40 := by
      have := HLN.out
      have := HS.out
      omega
    have hlen : t.data.toList.length = t.size := HS.out.symm
    by_cases hlt : a < t.size
    · have hal : a < t.data.toList.length := by omega
      have d1 : decide ((a : Int) < (t.size : Int)) = true := decide_eq_true (by omega)
      have d2 : decide (a < t.size) = true := decide_eq_true hlt
      have hix := idx t a w hal
      have hhd := head_at (T := t.data.toList) (i := a) hal
      have hgo0 := fun (h1 : k < 13) => scan_go (T := t.data.toList) h1 hal
      generalize hcd : t.data.toList.getD a 0 = c at *
      by_cases hk13 : k < 13
      · have d3 : decide ((k : Int) < 13) = true := decide_eq_true (by omega)
        have d4 : decide (k < 13) = true := decide_eq_true hk13
        by_cases hd : 0 ≤ dgv c
        · have d5 : decide (0 ≤ dgv c) = true := decide_eq_true hd
          have hd15 := dgv_le c
          have hgo := hgo0 hk13 hd
          obtain ⟨o1, o2, o3⟩ := or_dig (f := f) (q := (dgv c).toNat) hk13 (by omega) hf HM.out
          have hsh := shl_dig hk13 hd hd15
          have HM2 := Aside0.mk o3
          have HA1 : Aside0 (f + (dgv c).toNat * 16 ^ (12 - k) + (scan (k + 1) (t.data.toList.drop (a + 1))).1 = (scan 0 (DRefTxt.start t.data.toList)).1) := ⟨by
            have h5 := H1.out
            rw [hgo.1] at h5
            omega⟩
          have HA2 : Aside0 ((scan (k + 1) (t.data.toList.drop (a + 1))).2 = (scan 0 (DRefTxt.start t.data.toList)).2) := ⟨by
            rw [← hgo.2]
            exact H2.out⟩
          have x1 : IntKind.u64.wrap (dgv c) = dgv c := by
            rw [u64w]
            omega
          have x2 : IntKind.i64.wrap (4 * (k : Int)) = 4 * (k : Int) := (i64_w _).trans (w64 (by omega) (by omega))
          have x3 : IntKind.i64.wrap (48 - 4 * (k : Int)) = 48 - 4 * (k : Int) := (i64_w _).trans (w64 (by omega) (by omega))
          have x4 : IntKind.i64.wrap ((k : Int) + 1) = (k : Int) + 1 := (i64_w _).trans (w64 (by omega) (by omega))
          have x5 : IntKind.i64.wrap ((a : Int) + 1) = (a : Int) + 1 := (i64_w _).trans (w64 (by omega) (by omega))
          clear H1 H2 HM o3 hgo hgo0 hal hlen hhd hcd
          have HDC : Aside0 (∀ w, Calls Tryd.prog 22 #[.int .u8 (c.toNat : Int)] w fun e w' => e = .returned (.int .i64 (dgv c)) ∧ w' = w) := ⟨fun w => digit_calls _ w⟩
          generalize (dgv c).toNat * 16 ^ (12 - k) = q at *
          generalize dgv c = D at *
          generalize c.toNat = cn at *
          go_wp2_with (go_at_call 22; refine (HDC.out _).mono ?_; rintro e w' ⟨rfl, hw'⟩; obtain rfl := hw'.symm)
          go_round
          case rel => exact ⟨a + 1, k + 1, f + q, by omega, by omega, by omega, o2, by first | rfl | go_num, by first | rfl | go_num, by first | rfl | go_num, HM2, HA1, HA2⟩
          case measure =>
            simp [intOf]
            omega
        · have d5 : decide (0 ≤ dgv c) = false := decide_eq_false hd
          have hst := scan_stop (k := k) (u := t.data.toList.drop a) (fun _ c hc => by rw [hhd] at hc; rw [← Option.some.inj hc]; omega)
          have HSC : Aside0 (scan 0 (DRefTxt.start t.data.toList) = (f, t.data.toList.drop a)) := ⟨stop_pair hst H1.out H2.out⟩
          have HDC : Aside0 (∀ w, Calls Tryd.prog 22 #[.int .u8 (c.toNat : Int)] w fun e w' => e = .returned (.int .i64 (dgv c)) ∧ w' = w) := ⟨fun w => digit_calls _ w⟩
          clear H1 H2 HM hst hd hgo0
          have hixx := hix
          generalize hD : dgv c = D at *
          have HDD0 := Aside0.mk hD
          clear hD
          have hc0 := Aside0.mk hhd
          by_cases h112 : c = 112
          · have d112 : ((c.toNat : Int) == 112) = true := by
              rw [h112]
              rfl
            have HEX : Aside0 (manR t.data.toList = match numR (t.data.toList.drop (a + 1)) with
              | some e => if -1022 ≤ e ∧ e ≤ 1023 then some ((if t.data.toList[2]? = some 49 then (e + 1023).toNat * 4503599627370496 else 0) + f) else none
              | none => none) := ⟨by
                unfold manR
                rw [HSC.out]
                have h3 : expR (t.data.toList.drop a) = numR (t.data.toList.drop (a + 1)) := by
                  unfold expR
                  rw [hc0.out, h112, if_pos rfl, List.drop_drop]
                simp only
                rw [h3]
                rfl⟩
            clear h112 hc0 HSC hhd hcd
            generalize c.toNat = cn at *
            have HDD : Aside0 ((t.extract (a + 1) t.size).data.toList = t.data.toList.drop (a + 1)) := ⟨Lib.extract_to_end t (a + 1)⟩
            have HSZ2 : Aside0 ((t.extract (a + 1) t.size).size ≤ 140737488355328) := ⟨by
              rw [Lib.size_eq, HDD.out, List.length_drop]
              omega⟩
            have ew1 : IntKind.i64.wrap ((a : Int) + 1) = (a : Int) + 1 := (i64_w _).trans (w64 (by omega) (by omega))
            go_wp2_with (go_at_call 22; refine (HDC.out _).mono ?_; rintro e w' ⟨rfl, hw'⟩; obtain rfl := hw'.symm)
            refine (number_calls (t.extract (a + 1) t.size) w HSZ2.out).mono ?_
            unfold DRefNum.NumPost
            rw [HDD.out]
            rintro e w3 ⟨rfl, rfl⟩
            cases hU : numR (t.data.toList.drop (a + 1)) with
            | none =>
              have HC : Aside0 (candR s.data.toList = none) := ⟨by
                rw [HCA.out, HEX.out, hU]
                rfl⟩
              simp only [Option.getD_none, Option.isSome_none]
              clear HEX hU
              go_wp2_with fail
              go_ret2
              exact ⟨⟨0, 3, ansR_none HC.out, rfl⟩, Below.refl _ _⟩
            | some e =>
              simp only [Option.getD_some, Option.isSome_some]
              rw [hU] at HEX
              by_cases h1 : e < -1022
              · have HC : Aside0 (candR s.data.toList = none) := ⟨by
                  rw [HCA.out, HEX.out]
                  simp only
                  rw [if_neg (by omega)]
                  rfl⟩
                have q1 : decide (e < -1022) = true := decide_eq_true h1
                clear HEX hU h1
                go_wp2_with fail
                go_ret2
                exact ⟨⟨0, 3, ansR_none HC.out, rfl⟩, Below.refl _ _⟩
              · have q1 : decide (e < -1022) = false := decide_eq_false h1
                by_cases h2 : 1023 < e
                · have HC : Aside0 (candR s.data.toList = none) := ⟨by
                    rw [HCA.out, HEX.out]
                    simp only
                    rw [if_neg (by omega)]
                    rfl⟩
                  have q2 : decide (1023 < e) = true := decide_eq_true h2
                  clear HEX hU h1 h2
                  go_wp2_with fail
                  go_ret2
                  exact ⟨⟨0, 3, ansR_none HC.out, rfl⟩, Below.refl _ _⟩
                · have q2 : decide (1023 < e) = false := decide_eq_false h2
                  obtain ⟨X, hX⟩ : ∃ X : Nat, (X : Int) = e + 1023 := ⟨(e + 1023).toNat, by omega⟩
                  have eX : (e + 1023).toNat = X := by omega
                  have r1 : IntKind.i64.wrap (e + 1023) = (X : Int) := by rw [i64_w, w64 (by omega) (by omega)]; omega
                  have r2 : IntKind.u64.wrap (X : Int) = (X : Int) := by
                    rw [u64w]
                    omega
                  obtain ⟨XX, hXX⟩ : ∃ XX, X * 4503599627370496 = XX := ⟨_, rfl⟩
                  have r3 : IntKind.u64.wrap ((X : Int) * 4503599627370496) = (XX : Int) := by
                    rw [u64w]
                    omega
                  have HXL : Aside0 (X < 2047) := ⟨by omega⟩
                  by_cases h49 : t.data.toList.getD 2 0 = 49
                  · have hi2 : (Instr.index 9 (.string t) (.int .i64 2)).run Tryd.prog w3 = .ok (.int .u8 49) w3 := by
                      have := idx t 2 w3 (by omega)
                      rw [h49] at this
                      exact this
                    obtain ⟨Y, hY⟩ : ∃ Y, XX + f + 9223372036854775808 = Y := ⟨_, rfl⟩
                    have HC : Aside0 (candR s.data.toList = some Y) := ⟨by
                      rw [HCA.out, HEX.out]
                      simp only
                      rw [if_pos ⟨by omega, by omega⟩, if_pos (by rw [List.getElem?_eq_getElem (by omega)]; rw [List.getD_eq_getElem?_getD, List.getElem?_eq_getElem (by omega)] at h49; exact congrArg some h49), eX, hXX, ← hY]
                      rfl⟩
                    obtain ⟨Z, hZ⟩ : ∃ Z, (X + 2048) * 4503599627370496 = Z := ⟨_, rfl⟩
                    have o1 : Go.bits .or .u64 9223372036854775808 (XX : Int) = (Z : Int) := by
                      rw [or_sign _ (by omega)]
                      omega
                    have o2 : Go.bits .or .u64 (Z : Int) (f : Int) = (Y : Int) := by
                      have h5 := or_add4 (x := X + 2048) (r := f) (by omega) hf
                      rw [hZ] at h5
                      rw [h5]
                      omega
                    have HYL : Aside0 (Y < 18446744073709551616) := ⟨by omega⟩
                    clear HEX hU h1 h2 eX h49
                    clear hZ
                    clear hY hXX hX
                    go_wp2_with fail
                    refine (DRefText.text_calls Y (by have := HYL.out; omega) _).mono ?_
                    rintro e w9 ⟨rfl, hB⟩
                    have HB9 := Aside0.mk hB
                    clear hB
                    by_cases ht : txt Y = s.data.toList
                    · have d7 : (txt Y == s.toList) = true := by rw [HTT.out, ht]; exact beq_self_eq_true _
                      have d8 : (txt Y != s.toList) = false := by rw [bne, d7]; rfl
                      have HT := Aside0.mk ht
                      clear ht
                      go_wp2_with fail
                      go_ret2
                      exact ⟨⟨Y, 0, ansR_some HC.out HT.out, rfl⟩, HB9.out⟩
                    · have d7 : (txt Y == s.toList) = false := by rw [HTT.out]; exact beq_eq_false_iff_ne.2 ht
                      have d8 : (txt Y != s.toList) = true := by rw [bne, d7]; rfl
                      have HT := Aside0.mk ht
                      clear ht
                      go_wp2_with fail
                      go_ret2
                      exact ⟨⟨0, 3, ansR_bad HC.out HT.out, rfl⟩, HB9.out⟩
                  · have hi2 := idx t 2 w3 (by omega)
                    have hi3 : (Instr.index 9 (.string t) (.int .i64 2)).run Tryd.prog w3 = .ok (.int .u8 ((t.data.toList.getD 2 0).toNat : Int)) w3 := hi2
                    have hne : ((t.data.toList.getD 2 0).toNat : Int) ≠ 49 := fun h => h49 (UInt8.toNat_inj.1 (by
                      have : (49 : UInt8).toNat = 49 := rfl
                      omega))
                    have d49 : (((t.data.toList.getD 2 0).toNat : Int) == 49) = false := beq_eq_false_iff_ne.2 hne
                    obtain ⟨Y, hY⟩ : ∃ Y, f + 9223372036854775808 = Y := ⟨_, rfl⟩
                    have HC : Aside0 (candR s.data.toList = some Y) := ⟨by
                      rw [HCA.out, HEX.out]
                      simp only
                      rw [if_pos ⟨by omega, by omega⟩, if_neg (by rw [List.getElem?_eq_getElem (by omega)]; rw [List.getD_eq_getElem?_getD, List.getElem?_eq_getElem (by omega)] at h49; exact fun h => h49 (Option.some.inj h)), Nat.zero_add, ← hY]
                      rfl⟩
                    have o1 : Go.bits .or .u64 9223372036854775808 (f : Int) = (Y : Int) := by
                      rw [or_sign _ (by omega)]
                      omega
                    have HYL : Aside0 (Y < 18446744073709551616) := ⟨by omega⟩
                    clear hi2
                    generalize (t.data.toList.getD 2 0).toNat = c2 at *
                    clear HEX hU h1 h2 eX h49 hne
                    clear hY hXX hX
                    go_wp2_with fail
                    refine (DRefText.text_calls Y (by have := HYL.out; omega) _).mono ?_
                    rintro e w9 ⟨rfl, hB⟩
                    have HB9 := Aside0.mk hB
                    clear hB
                    by_cases ht : txt Y = s.data.toList
                    · have d7 : (txt Y == s.toList) = true := by rw [HTT.out, ht]; exact beq_self_eq_true _
                      have d8 : (txt Y != s.toList) = false := by rw [bne, d7]; rfl
                      have HT := Aside0.mk ht
                      clear ht
                      go_wp2_with fail
                      go_ret2
                      exact ⟨⟨Y, 0, ansR_some HC.out HT.out, rfl⟩, HB9.out⟩
                    · have d7 : (txt Y == s.toList) = false := by rw [HTT.out]; exact beq_eq_false_iff_ne.2 ht
                      have d8 : (txt Y != s.toList) = true := by rw [bne, d7]; rfl
                      have HT := Aside0.mk ht
                      clear ht
                      go_wp2_with fail
                      go_ret2
                      exact ⟨⟨0, 3, ansR_bad HC.out HT.out, rfl⟩, HB9.out⟩
          · have hne : (c.toNat : Int) ≠ 112 := fun h => h112 (UInt8.toNat_inj.1 (by
              have : (112 : UInt8).toNat = 112 := rfl
              omega))
            have d112 : ((c.toNat : Int) == 112) = false := beq_eq_false_iff_ne.2 hne
            have HC : Aside0 (candR s.data.toList = none) := ⟨by
              rw [HCA.out]
              unfold manR
              rw [HSC.out]
              have h3 : expR (t.data.toList.drop a) = none := by
                unfold expR
                rw [hc0.out, if_neg (fun h => h112 (Option.some.inj h))]
              simp only
              rw [h3]
              rfl⟩
            clear hc0 HSC h112 hhd hcd
            generalize c.toNat = cn at *
            clear hne
            go_wp2_with (go_at_call 22; refine (HDC.out _).mono ?_; rintro e w' ⟨rfl, hw'⟩; obtain rfl := hw'.symm)
            go_ret2
            exact ⟨⟨0, 3, ansR_none HC.out, rfl⟩, Below.refl _ _⟩
      · have d3 : decide ((k : Int) < 13) = false := decide_eq_false (by omega)
        have d4 : decide (k < 13) = false := decide_eq_false hk13
        have hst := scan_stop (k := k) (u := t.data.toList.drop a) (fun h => absurd h hk13)
        have HSC : Aside0 (scan 0 (DRefTxt.start t.data.toList) = (f, t.data.toList.drop a)) := ⟨stop_pair hst H1.out H2.out⟩
        clear H1 H2 HM hst hgo0
        have hc0 := Aside0.mk hhd
        by_cases h112 : c = 112
        · have d112 : ((c.toNat : Int) == 112) = true := by
            rw [h112]
            rfl
          have HEX : Aside0 (manR t.data.toList = match numR (t.data.toList.drop (a + 1)) with
            | some e => if -1022 ≤ e ∧ e ≤ 1023 then some ((if t.data.toList[2]? = some 49 then (e + 1023).toNat * 4503599627370496 else 0) + f) else none
            | none => none) := ⟨by
              unfold manR
              rw [HSC.out]
              have h3 : expR (t.data.toList.drop a) = numR (t.data.toList.drop (a + 1)) := by
                unfold expR
                rw [hc0.out, h112, if_pos rfl, List.drop_drop]
              simp only
              rw [h3]
              rfl⟩
          clear h112 hc0 HSC hhd hcd
          generalize c.toNat = cn at *
          have HDD : Aside0 ((t.extract (a + 1) t.size).data.toList = t.data.toList.drop (a + 1)) := ⟨Lib.extract_to_end t (a + 1)⟩
          have HSZ2 : Aside0 ((t.extract (a + 1) t.size).size ≤ 140737488355328) := ⟨by
            rw [Lib.size_eq, HDD.out, List.length_drop]
            omega⟩
          have ew1 : IntKind.i64.wrap ((a : Int) + 1) = (a : Int) + 1 := (i64_w _).trans (w64 (by omega) (by omega))
          go_wp2_with fail
          refine (number_calls (t.extract (a + 1) t.size) w HSZ2.out).mono ?_
          unfold DRefNum.NumPost
          rw [HDD.out]
          rintro e w3 ⟨rfl, rfl⟩
          cases hU : numR (t.data.toList.drop (a + 1)) with
          | none =>
            have HC : Aside0 (candR s.data.toList = none) := ⟨by
              rw [HCA.out, HEX.out, hU]
              rfl⟩
            simp only [Option.getD_none, Option.isSome_none]
            clear HEX hU
            go_wp2_with fail
            go_ret2
            exact ⟨⟨0, 3, ansR_none HC.out, rfl⟩, Below.refl _ _⟩
          | some e =>
            simp only [Option.getD_some, Option.isSome_some]
            rw [hU] at HEX
            by_cases h1 : e < -1022
            · have HC : Aside0 (candR s.data.toList = none) := ⟨by
                rw [HCA.out, HEX.out]
                simp only
                rw [if_neg (by omega)]
                rfl⟩
              have q1 : decide (e < -1022) = true := decide_eq_true h1
              clear HEX hU h1
              go_wp2_with fail
              go_ret2
              exact ⟨⟨0, 3, ansR_none HC.out, rfl⟩, Below.refl _ _⟩
            · have q1 : decide (e < -1022) = false := decide_eq_false h1
              by_cases h2 : 1023 < e
              · have HC : Aside0 (candR s.data.toList = none) := ⟨by
                  rw [HCA.out, HEX.out]
                  simp only
                  rw [if_neg (by omega)]
                  rfl⟩
                have q2 : decide (1023 < e) = true := decide_eq_true h2
                clear HEX hU h1 h2
                go_wp2_with fail
                go_ret2
                exact ⟨⟨0, 3, ansR_none HC.out, rfl⟩, Below.refl _ _⟩
              · have q2 : decide (1023 < e) = false := decide_eq_false h2
                obtain ⟨X, hX⟩ : ∃ X : Nat, (X : Int) = e + 1023 := ⟨(e + 1023).toNat, by omega⟩
                have eX : (e + 1023).toNat = X := by omega
                have r1 : IntKind.i64.wrap (e + 1023) = (X : Int) := by rw [i64_w, w64 (by omega) (by omega)]; omega
                have r2 : IntKind.u64.wrap (X : Int) = (X : Int) := by
                  rw [u64w]
                  omega
                obtain ⟨XX, hXX⟩ : ∃ XX, X * 4503599627370496 = XX := ⟨_, rfl⟩
                have r3 : IntKind.u64.wrap ((X : Int) * 4503599627370496) = (XX : Int) := by
                  rw [u64w]
                  omega
                have HXL : Aside0 (X < 2047) := ⟨by omega⟩
                by_cases h49 : t.data.toList.getD 2 0 = 49
                · have hi2 : (Instr.index 9 (.string t) (.int .i64 2)).run Tryd.prog w3 = .ok (.int .u8 49) w3 := by
                    have := idx t 2 w3 (by omega)
                    rw [h49] at this
                    exact this
                  obtain ⟨Y, hY⟩ : ∃ Y, XX + f + 9223372036854775808 = Y := ⟨_, rfl⟩
                  have HC : Aside0 (candR s.data.toList = some Y) := ⟨by
                    rw [HCA.out, HEX.out]
                    simp only
                    rw [if_pos ⟨by omega, by omega⟩, if_pos (by rw [List.getElem?_eq_getElem (by omega)]; rw [List.getD_eq_getElem?_getD, List.getElem?_eq_getElem (by omega)] at h49; exact congrArg some h49), eX, hXX, ← hY]
                    rfl⟩
                  obtain ⟨Z, hZ⟩ : ∃ Z, (X + 2048) * 4503599627370496 = Z := ⟨_, rfl⟩
                  have o1 : Go.bits .or .u64 9223372036854775808 (XX : Int) = (Z : Int) := by
                    rw [or_sign _ (by omega)]
                    omega
                  have o2 : Go.bits .or .u64 (Z : Int) (f : Int) = (Y : Int) := by
                    have h5 := or_add4 (x := X + 2048) (r := f) (by omega) hf
                    rw [hZ] at h5
                    rw [h5]
                    omega
                  have HYL : Aside0 (Y < 18446744073709551616) := ⟨by omega⟩
                  clear HEX hU h1 h2 eX h49
                  clear hZ
                  clear hY hXX hX
                  go_wp2_with fail
                  refine (DRefText.text_calls Y (by have := HYL.out; omega) _).mono ?_
                  rintro e w9 ⟨rfl, hB⟩
                  have HB9 := Aside0.mk hB
                  clear hB
                  by_cases ht : txt Y = s.data.toList
                  · have d7 : (txt Y == s.toList) = true := by rw [HTT.out, ht]; exact beq_self_eq_true _
                    have d8 : (txt Y != s.toList) = false := by rw [bne, d7]; rfl
                    have HT := Aside0.mk ht
                    clear ht
                    go_wp2_with fail
                    go_ret2
                    exact ⟨⟨Y, 0, ansR_some HC.out HT.out, rfl⟩, HB9.out⟩
                  · have d7 : (txt Y == s.toList) = false := by rw [HTT.out]; exact beq_eq_false_iff_ne.2 ht
                    have d8 : (txt Y != s.toList) = true := by rw [bne, d7]; rfl
                    have HT := Aside0.mk ht
                    clear ht
                    go_wp2_with fail
                    go_ret2
                    exact ⟨⟨0, 3, ansR_bad HC.out HT.out, rfl⟩, HB9.out⟩
                · have hi2 := idx t 2 w3 (by omega)
                  have hi3 : (Instr.index 9 (.string t) (.int .i64 2)).run Tryd.prog w3 = .ok (.int .u8 ((t.data.toList.getD 2 0).toNat : Int)) w3 := hi2
                  have hne : ((t.data.toList.getD 2 0).toNat : Int) ≠ 49 := fun h => h49 (UInt8.toNat_inj.1 (by
                    have : (49 : UInt8).toNat = 49 := rfl
                    omega))
                  have d49 : (((t.data.toList.getD 2 0).toNat : Int) == 49) = false := beq_eq_false_iff_ne.2 hne
                  obtain ⟨Y, hY⟩ : ∃ Y, f + 9223372036854775808 = Y := ⟨_, rfl⟩
                  have HC : Aside0 (candR s.data.toList = some Y) := ⟨by
                    rw [HCA.out, HEX.out]
                    simp only
                    rw [if_pos ⟨by omega, by omega⟩, if_neg (by rw [List.getElem?_eq_getElem (by omega)]; rw [List.getD_eq_getElem?_getD, List.getElem?_eq_getElem (by omega)] at h49; exact fun h => h49 (Option.some.inj h)), Nat.zero_add, ← hY]
                    rfl⟩
                  have o1 : Go.bits .or .u64 9223372036854775808 (f : Int) = (Y : Int) := by
                    rw [or_sign _ (by omega)]
                    omega
                  have HYL : Aside0 (Y < 18446744073709551616) := ⟨by omega⟩
                  clear hi2
                  generalize (t.data.toList.getD 2 0).toNat = c2 at *
                  clear HEX hU h1 h2 eX h49 hne
                  clear hY hXX hX
                  go_wp2_with fail
                  refine (DRefText.text_calls Y (by have := HYL.out; omega) _).mono ?_
                  rintro e w9 ⟨rfl, hB⟩
                  have HB9 := Aside0.mk hB
                  clear hB
                  by_cases ht : txt Y = s.data.toList
                  · have d7 : (txt Y == s.toList) = true := by rw [HTT.out, ht]; exact beq_self_eq_true _
                    have d8 : (txt Y != s.toList) = false := by rw [bne, d7]; rfl
                    have HT := Aside0.mk ht
                    clear ht
                    go_wp2_with fail
                    go_ret2
                    exact ⟨⟨Y, 0, ansR_some HC.out HT.out, rfl⟩, HB9.out⟩
                  · have d7 : (txt Y == s.toList) = false := by rw [HTT.out]; exact beq_eq_false_iff_ne.2 ht
                    have d8 : (txt Y != s.toList) = true := by rw [bne, d7]; rfl
                    have HT := Aside0.mk ht
                    clear ht
                    go_wp2_with fail
                    go_ret2
                    exact ⟨⟨0, 3, ansR_bad HC.out HT.out, rfl⟩, HB9.out⟩
        · have hne : (c.toNat : Int) ≠ 112 := fun h => h112 (UInt8.toNat_inj.1 (by
            have : (112 : UInt8).toNat = 112 := rfl
            omega))
          have d112 : ((c.toNat : Int) == 112) = false := beq_eq_false_iff_ne.2 hne
          have HC : Aside0 (candR s.data.toList = none) := ⟨by
            rw [HCA.out]
            unfold manR
            rw [HSC.out]
            have h3 : expR (t.data.toList.drop a) = none := by
              unfold expR
              rw [hc0.out, if_neg (fun h => h112 (Option.some.inj h))]
            simp only
            rw [h3]
            rfl⟩
          clear hc0 HSC h112 hhd hcd
          generalize c.toNat = cn at *
          clear hne
          go_wp2_with fail
          go_ret2
          exact ⟨⟨0, 3, ansR_none HC.out, rfl⟩, Below.refl _ _⟩
    · obtain rfl : a = t.size := by omega
      have d1 : decide ((t.size : Int) < (t.size : Int)) = false := decide_eq_false (by omega)
      have hst := scan_stop (k := k) (u := t.data.toList.drop t.size) (fun _ c hc => by rw [← hlen, List.drop_length] at hc; cases hc)
      have HC : Aside0 (candR s.data.toList = none) := ⟨by
        have HSC : scan 0 (DRefTxt.start t.data.toList) = (f, t.data.toList.drop t.size) := stop_pair hst H1.out H2.out
        rw [HCA.out]
        unfold manR
        rw [HSC]
        have h3 : expR (t.data.toList.drop t.size) = none := by
          rw [← hlen, List.drop_length]
          rfl
        simp only
        rw [h3]
        rfl⟩
      clear H1 H2 HM hst hlt
      go_wp2_with fail
      go_ret2
      exact ⟨⟨0, 3, ansR_none HC.out, rfl⟩, Below.refl _ _⟩
set_option maxHeartbeats 3200000 in
set_option maxRecDepth 100000 in
theorem parse_short_p (s : ByteArray) (w : World) (hn : (s.toList == [110, 97, 110]) = false) (d0 : decide ((0 : Int) < (s.size : Int)) = true) (d0n : decide (0 < s.size) = true) (c0 : Nat) (hi0 : (Instr.index 9 (.string s) (.int .i64 0)).run Tryd.prog w = .ok (.int .u8 (c0 : Int)) w) (d45 : ((c0 : Int) == 45) = false) (hz : (s.toList == [48]) = false) (hi : (s.toList == [105, 110, 102]) = false) (ht3 : s.data.toList.length ≤ 3) (HC : Aside0 (candR s.data.toList = none)) : Calls Tryd.prog 10 #[.string s] w (Good s.data.toList w) := by
  have hs := Lib.size_eq s
  have k1 : decide ((3 : Int) < (s.size : Int)) = false := decide_eq_false (by omega)
  have k2 : decide (3 < s.size) = false := decide_eq_false (by omega)
  clear hs ht3
  go_enter Tryd.func10, Tryd.ntmps10
  go_wp2_with fail
  go_ret2
  exact ⟨⟨0, 3, ansR_none HC.out, rfl⟩, Below.refl _ _⟩
set_option maxHeartbeats 3200000 in
set_option maxRecDepth 100000 in
theorem parse_long_p (s : ByteArray) (w : World) (hn : (s.toList == [110, 97, 110]) = false) (d0 : decide ((0 : Int) < (s.size : Int)) = true) (d0n : decide (0 < s.size) = true) (c0 : Nat) (hi0 : (Instr.index 9 (.string s) (.int .i64 0)).run Tryd.prog w = .ok (.int .u8 (c0 : Int)) w) (d45 : ((c0 : Int) == 45) = false) (hz : (s.toList == [48]) = false) (hi : (s.toList == [105, 110, 102]) = false) (ht3 : 40 ≤ s.data.toList.length) (htm : s.data.toList.length ≤ 140737488355328) (HC : Aside0 (candR s.data.toList = none)) : Calls Tryd.prog 10 #[.string s] w (Good s.data.toList w) := by
  have hs := Lib.size_eq s
  have k1 : decide ((3 : Int) < (s.size : Int)) = true := decide_eq_true (by omega)
  have k2 : decide (3 < s.size) = true := decide_eq_true (by omega)
  have k3 : decide ((s.size : Int) < 40) = false := decide_eq_false (by omega)
  have k4 : decide (s.size < 40) = false := decide_eq_false (by omega)
  clear hs ht3
  go_enter Tryd.func10, Tryd.ntmps10
  go_wp2_with fail
  go_ret2
  exact ⟨⟨0, 3, ansR_none HC.out, rfl⟩, Below.refl _ _⟩
set_option maxHeartbeats 3200000 in
set_option maxRecDepth 100000 in
theorem parse_other_p (s : ByteArray) (w : World) (hn : (s.toList == [110, 97, 110]) = false) (d0 : decide ((0 : Int) < (s.size : Int)) = true) (d0n : decide (0 < s.size) = true) (c0 : Nat) (hi0 : (Instr.index 9 (.string s) (.int .i64 0)).run Tryd.prog w = .ok (.int .u8 (c0 : Int)) w) (d45 : ((c0 : Int) == 45) = false) (hz : (s.toList == [48]) = false) (hi : (s.toList == [105, 110, 102]) = false) (ht3 : 3 < s.data.toList.length ∧ s.data.toList.length < 40) (htk : s.data.toList.take 2 ≠ [48, 120]) (HC : Aside0 (candR s.data.toList = none)) : Calls Tryd.prog 10 #[.string s] w (Good s.data.toList w) := by
  have hs := Lib.size_eq s
  have k1 : decide ((3 : Int) < (s.size : Int)) = true := decide_eq_true (by omega)
  have k2 : decide (3 < s.size) = true := decide_eq_true (by omega)
  have k3 : decide ((s.size : Int) < 40) = true := decide_eq_true (by omega)
  have k4 : decide (s.size < 40) = true := decide_eq_true (by omega)
  have h2 := head_two s w (by omega)
  generalize s.data.toList.take 2 = P2 at *
  have k5 : (P2 == [48, 120]) = false := beq_eq_false_iff_ne.2 htk
  clear htk
  clear hs ht3
  go_enter Tryd.func10, Tryd.ntmps10
  go_wp2_with fail
  go_ret2
  exact ⟨⟨0, 3, ansR_none HC.out, rfl⟩, Below.refl _ _⟩
set_option maxHeartbeats 3200000 in
set_option maxRecDepth 100000 in
theorem parse_man3_p (s : ByteArray) (w : World) (hn : (s.toList == [110, 97, 110]) = false) (d0 : decide ((0 : Int) < (s.size : Int)) = true) (d0n : decide (0 < s.size) = true) (c0 : Nat) (hi0 : (Instr.index 9 (.string s) (.int .i64 0)).run Tryd.prog w = .ok (.int .u8 (c0 : Int)) w) (d45 : ((c0 : Int) == 45) = false) (hz : (s.toList == [48]) = false) (hi : (s.toList == [105, 110, 102]) = false) (ht3 : 3 < s.data.toList.length ∧ s.data.toList.length < 40) (htk : s.data.toList.take 2 = [48, 120]) (hc3 : s.data.toList.getD 3 0 ≠ 46) (HCA : Aside0 (candR s.data.toList = (manR s.data.toList).map fun m => m)) : Calls Tryd.prog 10 #[.string s] w (Good s.data.toList w) := by
  have HTT : Aside0 (s.toList = s.data.toList) := ⟨Lib.toList_data s⟩
  have hs := Lib.size_eq s
  have k1 : decide ((3 : Int) < (s.size : Int)) = true := decide_eq_true (by omega)
  have k2 : decide (3 < s.size) = true := decide_eq_true (by omega)
  have k3 : decide ((s.size : Int) < 40) = true := decide_eq_true (by omega)
  have k4 : decide (s.size < 40) = true := decide_eq_true (by omega)
  have h2 := head_two s w (by omega)
  rw [htk] at h2
  have h2b : (Instr.slice 9 (.string s) none (some (.int .i64 2)) none).run Tryd.prog w = .ok (.string ⟨#[48, 120]⟩) w := h2
  have HST : Aside0 (DRefTxt.start s.data.toList = s.data.toList.drop 3) := ⟨by
    unfold DRefTxt.start
    have h4 : s.data.toList[3]? = some (s.data.toList.getD 3 0) := by
      rw [List.getD_eq_getElem?_getD, List.getElem?_eq_getElem (by omega)]
      rfl
    rw [h4, if_neg (fun h => hc3 (Option.some.inj h))]⟩
  have h3 : (Instr.index 9 (.string s) (.int .i64 3)).run Tryd.prog w = .ok (.int .u8 ((s.data.toList.getD 3 0).toNat : Int)) w := idx s 3 w (by omega)
  have hne3 : ((s.data.toList.getD 3 0).toNat : Int) ≠ 46 := fun h => hc3 (UInt8.toNat_inj.1 (by
    have : (46 : UInt8).toNat = 46 := rfl
    omega))
  have d46 : (((s.data.toList.getD 3 0).toNat : Int) == 46) = false := beq_eq_false_iff_ne.2 hne3
  generalize (s.data.toList.getD 3 0).toNat = c3 at *
  clear hne3
  have HLN := Aside0.mk ht3
  have HS := Aside0.mk hs
  clear hs ht3 htk hc3 h2
  go_enter Tryd.func10, Tryd.ntmps10
  go_wp2_with fail
  clear k1 k2 k3 k4 hz hi hn d0 d0n h2b h3 hi0 d45 d46
  go_loop [6, 7, 8] (fun sa sf sk => ∃ a k f : Nat, 3 ≤ a ∧ a ≤ s.size ∧ k ≤ 13 ∧ f < 4503599627370496 ∧ sa = .int .i64 a ∧ sf = .int .u64 f ∧ sk = .int .i64 k ∧ Aside0 (f % 16 ^ (13 - k) = 0) ∧ Aside0 (f + (scan k (s.data.toList.drop a)).1 = (scan 0 (DRefTxt.start s.data.toList)).1) ∧ Aside0 ((scan k (s.data.toList.drop a)).2 = (scan 0 (DRefTxt.start s.data.toList)).2)) (fun sa _ _ => s.size - (intOf sa).toNat)
  case atStart => exact ⟨3, 0, 0, by omega, by have := HLN.out; have := HS.out; omega, by omega, by omega, rfl, rfl, rfl, ⟨Nat.zero_mod _⟩, ⟨by rw [HST.out, Nat.zero_add]⟩, ⟨by rw [HST.out]⟩⟩
  case round =>
    obtain ⟨a, k, f, ha, has, hk, hf, rfl, rfl, rfl, HM, H1, H2⟩ := hrel
    have h40 : s.size < 40 := by
      have := HLN.out
      have := HS.out
      omega
    have hlen : s.data.toList.length = s.size := HS.out.symm
    by_cases hlt : a < s.size
    · have hal : a < s.data.toList.length := by omega
      have d1 : decide ((a : Int) < (s.size : Int)) = true := decide_eq_true (by omega)
      have d2 : decide (a < s.size) = true := decide_eq_true hlt
      have hix := idx s a w hal
      have hhd := head_at (T := s.data.toList) (i := a) hal
      have hgo0 := fun (h1 : k < 13) => scan_go (T := s.data.toList) h1 hal
      generalize hcd : s.data.toList.getD a 0 = c at *
      by_cases hk13 : k < 13
      · have d3 : decide ((k : Int) < 13) = true := decide_eq_true (by omega)
        have d4 : decide (k < 13) = true := decide_eq_true hk13
        by_cases hd : 0 ≤ dgv c
        · have d5 : decide (0 ≤ dgv c) = true := decide_eq_true hd
          have hd15 := dgv_le c
          have hgo := hgo0 hk13 hd
          obtain ⟨o1, o2, o3⟩ := or_dig (f := f) (q := (dgv c).toNat) hk13 (by omega) hf HM.out
          have hsh := shl_dig hk13 hd hd15
          have HM2 := Aside0.mk o3
          have HA1 : Aside0 (f + (dgv c).toNat * 16 ^ (12 - k) + (scan (k + 1) (s.data.toList.drop (a + 1))).1 = (scan 0 (DRefTxt.start s.data.toList)).1) := ⟨by
            have h5 := H1.out
            rw [hgo.1] at h5
            omega⟩
          have HA2 : Aside0 ((scan (k + 1) (s.data.toList.drop (a + 1))).2 = (scan 0 (DRefTxt.start s.data.toList)).2) := ⟨by
            rw [← hgo.2]
            exact H2.out⟩
          have x1 : IntKind.u64.wrap (dgv c) = dgv c := by
            rw [u64w]
            omega
          have x2 : IntKind.i64.wrap (4 * (k : Int)) = 4 * (k : Int) := (i64_w _).trans (w64 (by omega) (by omega))
          have x3 : IntKind.i64.wrap (48 - 4 * (k : Int)) = 48 - 4 * (k : Int) := (i64_w _).trans (w64 (by omega) (by omega))
          have x4 : IntKind.i64.wrap ((k : Int) + 1) = (k : Int) + 1 := (i64_w _).trans (w64 (by omega) (by omega))
          have x5 : IntKind.i64.wrap ((a : Int) + 1) = (a : Int) + 1 := (i64_w _).trans (w64 (by omega) (by omega))
          clear H1 H2 HM o3 hgo hgo0 hal hlen hhd hcd
          have HDC : Aside0 (∀ w, Calls Tryd.prog 22 #[.int .u8 (c.toNat : Int)] w fun e w' => e = .returned (.int .i64 (dgv c)) ∧ w' = w) := ⟨fun w => digit_calls _ w⟩
          generalize (dgv c).toNat * 16 ^ (12 - k) = q at *
          generalize dgv c = D at *
          generalize c.toNat = cn at *
          go_wp2_with (go_at_call 22; refine (HDC.out _).mono ?_; rintro e w' ⟨rfl, hw'⟩; obtain rfl := hw'.symm)
          go_round
          case rel => exact ⟨a + 1, k + 1, f + q, by omega, by omega, by omega, o2, by first | rfl | go_num, by first | rfl | go_num, by first | rfl | go_num, HM2, HA1, HA2⟩
          case measure =>
            simp [intOf]
            omega
        · have d5 : decide (0 ≤ dgv c) = false := decide_eq_false hd
          have hst := scan_stop (k := k) (u := s.data.toList.drop a) (fun _ c hc => by rw [hhd] at hc; rw [← Option.some.inj hc]; omega)
          have HSC : Aside0 (scan 0 (DRefTxt.start s.data.toList) = (f, s.data.toList.drop a)) := ⟨stop_pair hst H1.out H2.out⟩
          have HDC : Aside0 (∀ w, Calls Tryd.prog 22 #[.int .u8 (c.toNat : Int)] w fun e w' => e = .returned (.int .i64 (dgv c)) ∧ w' = w) := ⟨fun w => digit_calls _ w⟩
          clear H1 H2 HM hst hd hgo0
          have hixx := hix
          generalize hD : dgv c = D at *
          have HDD0 := Aside0.mk hD
          clear hD
          have hc0 := Aside0.mk hhd
          by_cases h112 : c = 112
          · have d112 : ((c.toNat : Int) == 112) = true := by
              rw [h112]
              rfl
            have HEX : Aside0 (manR s.data.toList = match numR (s.data.toList.drop (a + 1)) with
              | some e => if -1022 ≤ e ∧ e ≤ 1023 then some ((if s.data.toList[2]? = some 49 then (e + 1023).toNat * 4503599627370496 else 0) + f) else none
              | none => none) := ⟨by
                unfold manR
                rw [HSC.out]
                have h3 : expR (s.data.toList.drop a) = numR (s.data.toList.drop (a + 1)) := by
                  unfold expR
                  rw [hc0.out, h112, if_pos rfl, List.drop_drop]
                simp only
                rw [h3]
                rfl⟩
            clear h112 hc0 HSC hhd hcd
            generalize c.toNat = cn at *
            have HDD : Aside0 ((s.extract (a + 1) s.size).data.toList = s.data.toList.drop (a + 1)) := ⟨Lib.extract_to_end s (a + 1)⟩
            have HSZ2 : Aside0 ((s.extract (a + 1) s.size).size ≤ 140737488355328) := ⟨by
              rw [Lib.size_eq, HDD.out, List.length_drop]
              omega⟩
            have ew1 : IntKind.i64.wrap ((a : Int) + 1) = (a : Int) + 1 := (i64_w _).trans (w64 (by omega) (by omega))
            go_wp2_with (go_at_call 22; refine (HDC.out _).mono ?_; rintro e w' ⟨rfl, hw'⟩; obtain rfl := hw'.symm)
            refine (number_calls (s.extract (a + 1) s.size) w HSZ2.out).mono ?_
            unfold DRefNum.NumPost
            rw [HDD.out]
            rintro e w3 ⟨rfl, rfl⟩
            cases hU : numR (s.data.toList.drop (a + 1)) with
            | none =>
              have HC : Aside0 (candR s.data.toList = none) := ⟨by
                rw [HCA.out, HEX.out, hU]
                rfl⟩
              simp only [Option.getD_none, Option.isSome_none]
              clear HEX hU
              go_wp2_with fail
              go_ret2
              exact ⟨⟨0, 3, ansR_none HC.out, rfl⟩, Below.refl _ _⟩
            | some e =>
              simp only [Option.getD_some, Option.isSome_some]
              rw [hU] at HEX
              by_cases h1 : e < -1022
              · have HC : Aside0 (candR s.data.toList = none) := ⟨by
                  rw [HCA.out, HEX.out]
                  simp only
                  rw [if_neg (by omega)]
                  rfl⟩
                have q1 : decide (e < -1022) = true := decide_eq_true h1
                clear HEX hU h1
                go_wp2_with fail
                go_ret2
                exact ⟨⟨0, 3, ansR_none HC.out, rfl⟩, Below.refl _ _⟩
              · have q1 : decide (e < -1022) = false := decide_eq_false h1
                by_cases h2 : 1023 < e
                · have HC : Aside0 (candR s.data.toList = none) := ⟨by
                    rw [HCA.out, HEX.out]
                    simp only
                    rw [if_neg (by omega)]
                    rfl⟩
                  have q2 : decide (1023 < e) = true := decide_eq_true h2
                  clear HEX hU h1 h2
                  go_wp2_with fail
                  go_ret2
                  exact ⟨⟨0, 3, ansR_none HC.out, rfl⟩, Below.refl _ _⟩
                · have q2 : decide (1023 < e) = false := decide_eq_false h2
                  obtain ⟨X, hX⟩ : ∃ X : Nat, (X : Int) = e + 1023 := ⟨(e + 1023).toNat, by omega⟩
                  have eX : (e + 1023).toNat = X := by omega
                  have r1 : IntKind.i64.wrap (e + 1023) = (X : Int) := by rw [i64_w, w64 (by omega) (by omega)]; omega
                  have r2 : IntKind.u64.wrap (X : Int) = (X : Int) := by
                    rw [u64w]
                    omega
                  obtain ⟨XX, hXX⟩ : ∃ XX, X * 4503599627370496 = XX := ⟨_, rfl⟩
                  have r3 : IntKind.u64.wrap ((X : Int) * 4503599627370496) = (XX : Int) := by
                    rw [u64w]
                    omega
                  have HXL : Aside0 (X < 2047) := ⟨by omega⟩
                  by_cases h49 : s.data.toList.getD 2 0 = 49
                  · have hi2 : (Instr.index 9 (.string s) (.int .i64 2)).run Tryd.prog w3 = .ok (.int .u8 49) w3 := by
                      have := idx s 2 w3 (by omega)
                      rw [h49] at this
                      exact this
                    obtain ⟨Y, hY⟩ : ∃ Y, XX + f = Y := ⟨_, rfl⟩
                    have HC : Aside0 (candR s.data.toList = some Y) := ⟨by
                      rw [HCA.out, HEX.out]
                      simp only
                      rw [if_pos ⟨by omega, by omega⟩, if_pos (by rw [List.getElem?_eq_getElem (by omega)]; rw [List.getD_eq_getElem?_getD, List.getElem?_eq_getElem (by omega)] at h49; exact congrArg some h49), eX, hXX, ← hY]
                      rfl⟩
                    have o1 : Go.bits .or .u64 0 (XX : Int) = (XX : Int) := or_zero _ (by omega)
                    have o2 : Go.bits .or .u64 (XX : Int) (f : Int) = (Y : Int) := by
                      have h5 := or_add4 (x := X) (r := f) (by omega) hf
                      rw [hXX] at h5
                      rw [h5]
                      omega
                    have HYL : Aside0 (Y < 18446744073709551616) := ⟨by omega⟩
                    clear HEX hU h1 h2 eX h49
                    clear hY hXX hX
                    go_wp2_with fail
                    refine (DRefText.text_calls Y (by have := HYL.out; omega) _).mono ?_
                    rintro e w9 ⟨rfl, hB⟩
                    have HB9 := Aside0.mk hB
                    clear hB
                    by_cases ht : txt Y = s.data.toList
                    · have d7 : (txt Y == s.toList) = true := by rw [HTT.out, ht]; exact beq_self_eq_true _
                      have d8 : (txt Y != s.toList) = false := by rw [bne, d7]; rfl
                      have HT := Aside0.mk ht
                      clear ht
                      go_wp2_with fail
                      go_ret2
                      exact ⟨⟨Y, 0, ansR_some HC.out HT.out, rfl⟩, HB9.out⟩
                    · have d7 : (txt Y == s.toList) = false := by rw [HTT.out]; exact beq_eq_false_iff_ne.2 ht
                      have d8 : (txt Y != s.toList) = true := by rw [bne, d7]; rfl
                      have HT := Aside0.mk ht
                      clear ht
                      go_wp2_with fail
                      go_ret2
                      exact ⟨⟨0, 3, ansR_bad HC.out HT.out, rfl⟩, HB9.out⟩
                  · have hi2 := idx s 2 w3 (by omega)
                    have hi3 : (Instr.index 9 (.string s) (.int .i64 2)).run Tryd.prog w3 = .ok (.int .u8 ((s.data.toList.getD 2 0).toNat : Int)) w3 := hi2
                    have hne : ((s.data.toList.getD 2 0).toNat : Int) ≠ 49 := fun h => h49 (UInt8.toNat_inj.1 (by
                      have : (49 : UInt8).toNat = 49 := rfl
                      omega))
                    have d49 : (((s.data.toList.getD 2 0).toNat : Int) == 49) = false := beq_eq_false_iff_ne.2 hne
                    obtain ⟨Y, hY⟩ : ∃ Y, f = Y := ⟨_, rfl⟩
                    have HC : Aside0 (candR s.data.toList = some Y) := ⟨by
                      rw [HCA.out, HEX.out]
                      simp only
                      rw [if_pos ⟨by omega, by omega⟩, if_neg (by rw [List.getElem?_eq_getElem (by omega)]; rw [List.getD_eq_getElem?_getD, List.getElem?_eq_getElem (by omega)] at h49; exact fun h => h49 (Option.some.inj h)), Nat.zero_add, ← hY]
                      rfl⟩
                    have o1 : Go.bits .or .u64 0 (f : Int) = (Y : Int) := by
                      rw [or_zero _ (by omega)]
                      omega
                    have HYL : Aside0 (Y < 18446744073709551616) := ⟨by omega⟩
                    clear hi2
                    generalize (s.data.toList.getD 2 0).toNat = c2 at *
                    clear HEX hU h1 h2 eX h49 hne
                    clear hY hXX hX
                    go_wp2_with fail
                    refine (DRefText.text_calls Y (by have := HYL.out; omega) _).mono ?_
                    rintro e w9 ⟨rfl, hB⟩
                    have HB9 := Aside0.mk hB
                    clear hB
                    by_cases ht : txt Y = s.data.toList
                    · have d7 : (txt Y == s.toList) = true := by rw [HTT.out, ht]; exact beq_self_eq_true _
                      have d8 : (txt Y != s.toList) = false := by rw [bne, d7]; rfl
                      have HT := Aside0.mk ht
                      clear ht
                      go_wp2_with fail
                      go_ret2
                      exact ⟨⟨Y, 0, ansR_some HC.out HT.out, rfl⟩, HB9.out⟩
                    · have d7 : (txt Y == s.toList) = false := by rw [HTT.out]; exact beq_eq_false_iff_ne.2 ht
                      have d8 : (txt Y != s.toList) = true := by rw [bne, d7]; rfl
                      have HT := Aside0.mk ht
                      clear ht
                      go_wp2_with fail
                      go_ret2
                      exact ⟨⟨0, 3, ansR_bad HC.out HT.out, rfl⟩, HB9.out⟩
          · have hne : (c.toNat : Int) ≠ 112 := fun h => h112 (UInt8.toNat_inj.1 (by
              have : (112 : UInt8).toNat = 112 := rfl
              omega))
            have d112 : ((c.toNat : Int) == 112) = false := beq_eq_false_iff_ne.2 hne
            have HC : Aside0 (candR s.data.toList = none) := ⟨by
              rw [HCA.out]
              unfold manR
              rw [HSC.out]
              have h3 : expR (s.data.toList.drop a) = none := by
                unfold expR
                rw [hc0.out, if_neg (fun h => h112 (Option.some.inj h))]
              simp only
              rw [h3]
              rfl⟩
            clear hc0 HSC h112 hhd hcd
            generalize c.toNat = cn at *
            clear hne
            go_wp2_with (go_at_call 22; refine (HDC.out _).mono ?_; rintro e w' ⟨rfl, hw'⟩; obtain rfl := hw'.symm)
            go_ret2
            exact ⟨⟨0, 3, ansR_none HC.out, rfl⟩, Below.refl _ _⟩
      · have d3 : decide ((k : Int) < 13) = false := decide_eq_false (by omega)
        have d4 : decide (k < 13) = false := decide_eq_false hk13
        have hst := scan_stop (k := k) (u := s.data.toList.drop a) (fun h => absurd h hk13)
        have HSC : Aside0 (scan 0 (DRefTxt.start s.data.toList) = (f, s.data.toList.drop a)) := ⟨stop_pair hst H1.out H2.out⟩
        clear H1 H2 HM hst hgo0
        have hc0 := Aside0.mk hhd
        by_cases h112 : c = 112
        · have d112 : ((c.toNat : Int) == 112) = true := by
            rw [h112]
            rfl
          have HEX : Aside0 (manR s.data.toList = match numR (s.data.toList.drop (a + 1)) with
            | some e => if -1022 ≤ e ∧ e ≤ 1023 then some ((if s.data.toList[2]? = some 49 then (e + 1023).toNat * 4503599627370496 else 0) + f) else none
            | none => none) := ⟨by
              unfold manR
              rw [HSC.out]
              have h3 : expR (s.data.toList.drop a) = numR (s.data.toList.drop (a + 1)) := by
                unfold expR
                rw [hc0.out, h112, if_pos rfl, List.drop_drop]
              simp only
              rw [h3]
              rfl⟩
          clear h112 hc0 HSC hhd hcd
          generalize c.toNat = cn at *
          have HDD : Aside0 ((s.extract (a + 1) s.size).data.toList = s.data.toList.drop (a + 1)) := ⟨Lib.extract_to_end s (a + 1)⟩
          have HSZ2 : Aside0 ((s.extract (a + 1) s.size).size ≤ 140737488355328) := ⟨by
            rw [Lib.size_eq, HDD.out, List.length_drop]
            omega⟩
          have ew1 : IntKind.i64.wrap ((a : Int) + 1) = (a : Int) + 1 := (i64_w _).trans (w64 (by omega) (by omega))
          go_wp2_with fail
          refine (number_calls (s.extract (a + 1) s.size) w HSZ2.out).mono ?_
          unfold DRefNum.NumPost
          rw [HDD.out]
          rintro e w3 ⟨rfl, rfl⟩
          cases hU : numR (s.data.toList.drop (a + 1)) with
          | none =>
            have HC : Aside0 (candR s.data.toList = none) := ⟨by
              rw [HCA.out, HEX.out, hU]
              rfl⟩
            simp only [Option.getD_none, Option.isSome_none]
            clear HEX hU
            go_wp2_with fail
            go_ret2
            exact ⟨⟨0, 3, ansR_none HC.out, rfl⟩, Below.refl _ _⟩
          | some e =>
            simp only [Option.getD_some, Option.isSome_some]
            rw [hU] at HEX
            by_cases h1 : e < -1022
            · have HC : Aside0 (candR s.data.toList = none) := ⟨by
                rw [HCA.out, HEX.out]
                simp only
                rw [if_neg (by omega)]
                rfl⟩
              have q1 : decide (e < -1022) = true := decide_eq_true h1
              clear HEX hU h1
              go_wp2_with fail
              go_ret2
              exact ⟨⟨0, 3, ansR_none HC.out, rfl⟩, Below.refl _ _⟩
            · have q1 : decide (e < -1022) = false := decide_eq_false h1
              by_cases h2 : 1023 < e
              · have HC : Aside0 (candR s.data.toList = none) := ⟨by
                  rw [HCA.out, HEX.out]
                  simp only
                  rw [if_neg (by omega)]
                  rfl⟩
                have q2 : decide (1023 < e) = true := decide_eq_true h2
                clear HEX hU h1 h2
                go_wp2_with fail
                go_ret2
                exact ⟨⟨0, 3, ansR_none HC.out, rfl⟩, Below.refl _ _⟩
              · have q2 : decide (1023 < e) = false := decide_eq_false h2
                obtain ⟨X, hX⟩ : ∃ X : Nat, (X : Int) = e + 1023 := ⟨(e + 1023).toNat, by omega⟩
                have eX : (e + 1023).toNat = X := by omega
                have r1 : IntKind.i64.wrap (e + 1023) = (X : Int) := by rw [i64_w, w64 (by omega) (by omega)]; omega
                have r2 : IntKind.u64.wrap (X : Int) = (X : Int) := by
                  rw [u64w]
                  omega
                obtain ⟨XX, hXX⟩ : ∃ XX, X * 4503599627370496 = XX := ⟨_, rfl⟩
                have r3 : IntKind.u64.wrap ((X : Int) * 4503599627370496) = (XX : Int) := by
                  rw [u64w]
                  omega
                have HXL : Aside0 (X < 2047) := ⟨by omega⟩
                by_cases h49 : s.data.toList.getD 2 0 = 49
                · have hi2 : (Instr.index 9 (.string s) (.int .i64 2)).run Tryd.prog w3 = .ok (.int .u8 49) w3 := by
                    have := idx s 2 w3 (by omega)
                    rw [h49] at this
                    exact this
                  obtain ⟨Y, hY⟩ : ∃ Y, XX + f = Y := ⟨_, rfl⟩
                  have HC : Aside0 (candR s.data.toList = some Y) := ⟨by
                    rw [HCA.out, HEX.out]
                    simp only
                    rw [if_pos ⟨by omega, by omega⟩, if_pos (by rw [List.getElem?_eq_getElem (by omega)]; rw [List.getD_eq_getElem?_getD, List.getElem?_eq_getElem (by omega)] at h49; exact congrArg some h49), eX, hXX, ← hY]
                    rfl⟩
                  have o1 : Go.bits .or .u64 0 (XX : Int) = (XX : Int) := or_zero _ (by omega)
                  have o2 : Go.bits .or .u64 (XX : Int) (f : Int) = (Y : Int) := by
                    have h5 := or_add4 (x := X) (r := f) (by omega) hf
                    rw [hXX] at h5
                    rw [h5]
                    omega
                  have HYL : Aside0 (Y < 18446744073709551616) := ⟨by omega⟩
                  clear HEX hU h1 h2 eX h49
                  clear hY hXX hX
                  go_wp2_with fail
                  refine (DRefText.text_calls Y (by have := HYL.out; omega) _).mono ?_
                  rintro e w9 ⟨rfl, hB⟩
                  have HB9 := Aside0.mk hB
                  clear hB
                  by_cases ht : txt Y = s.data.toList
                  · have d7 : (txt Y == s.toList) = true := by rw [HTT.out, ht]; exact beq_self_eq_true _
                    have d8 : (txt Y != s.toList) = false := by rw [bne, d7]; rfl
                    have HT := Aside0.mk ht
                    clear ht
                    go_wp2_with fail
                    go_ret2
                    exact ⟨⟨Y, 0, ansR_some HC.out HT.out, rfl⟩, HB9.out⟩
                  · have d7 : (txt Y == s.toList) = false := by rw [HTT.out]; exact beq_eq_false_iff_ne.2 ht
                    have d8 : (txt Y != s.toList) = true := by rw [bne, d7]; rfl
                    have HT := Aside0.mk ht
                    clear ht
                    go_wp2_with fail
                    go_ret2
                    exact ⟨⟨0, 3, ansR_bad HC.out HT.out, rfl⟩, HB9.out⟩
                · have hi2 := idx s 2 w3 (by omega)
                  have hi3 : (Instr.index 9 (.string s) (.int .i64 2)).run Tryd.prog w3 = .ok (.int .u8 ((s.data.toList.getD 2 0).toNat : Int)) w3 := hi2
                  have hne : ((s.data.toList.getD 2 0).toNat : Int) ≠ 49 := fun h => h49 (UInt8.toNat_inj.1 (by
                    have : (49 : UInt8).toNat = 49 := rfl
                    omega))
                  have d49 : (((s.data.toList.getD 2 0).toNat : Int) == 49) = false := beq_eq_false_iff_ne.2 hne
                  obtain ⟨Y, hY⟩ : ∃ Y, f = Y := ⟨_, rfl⟩
                  have HC : Aside0 (candR s.data.toList = some Y) := ⟨by
                    rw [HCA.out, HEX.out]
                    simp only
                    rw [if_pos ⟨by omega, by omega⟩, if_neg (by rw [List.getElem?_eq_getElem (by omega)]; rw [List.getD_eq_getElem?_getD, List.getElem?_eq_getElem (by omega)] at h49; exact fun h => h49 (Option.some.inj h)), Nat.zero_add, ← hY]
                    rfl⟩
                  have o1 : Go.bits .or .u64 0 (f : Int) = (Y : Int) := by
                    rw [or_zero _ (by omega)]
                    omega
                  have HYL : Aside0 (Y < 18446744073709551616) := ⟨by omega⟩
                  clear hi2
                  generalize (s.data.toList.getD 2 0).toNat = c2 at *
                  clear HEX hU h1 h2 eX h49 hne
                  clear hY hXX hX
                  go_wp2_with fail
                  refine (DRefText.text_calls Y (by have := HYL.out; omega) _).mono ?_
                  rintro e w9 ⟨rfl, hB⟩
                  have HB9 := Aside0.mk hB
                  clear hB
                  by_cases ht : txt Y = s.data.toList
                  · have d7 : (txt Y == s.toList) = true := by rw [HTT.out, ht]; exact beq_self_eq_true _
                    have d8 : (txt Y != s.toList) = false := by rw [bne, d7]; rfl
                    have HT := Aside0.mk ht
                    clear ht
                    go_wp2_with fail
                    go_ret2
                    exact ⟨⟨Y, 0, ansR_some HC.out HT.out, rfl⟩, HB9.out⟩
                  · have d7 : (txt Y == s.toList) = false := by rw [HTT.out]; exact beq_eq_false_iff_ne.2 ht
                    have d8 : (txt Y != s.toList) = true := by rw [bne, d7]; rfl
                    have HT := Aside0.mk ht
                    clear ht
                    go_wp2_with fail
                    go_ret2
                    exact ⟨⟨0, 3, ansR_bad HC.out HT.out, rfl⟩, HB9.out⟩
        · have hne : (c.toNat : Int) ≠ 112 := fun h => h112 (UInt8.toNat_inj.1 (by
            have : (112 : UInt8).toNat = 112 := rfl
            omega))
          have d112 : ((c.toNat : Int) == 112) = false := beq_eq_false_iff_ne.2 hne
          have HC : Aside0 (candR s.data.toList = none) := ⟨by
            rw [HCA.out]
            unfold manR
            rw [HSC.out]
            have h3 : expR (s.data.toList.drop a) = none := by
              unfold expR
              rw [hc0.out, if_neg (fun h => h112 (Option.some.inj h))]
            simp only
            rw [h3]
            rfl⟩
          clear hc0 HSC h112 hhd hcd
          generalize c.toNat = cn at *
          clear hne
          go_wp2_with fail
          go_ret2
          exact ⟨⟨0, 3, ansR_none HC.out, rfl⟩, Below.refl _ _⟩
    · obtain rfl : a = s.size := by omega
      have d1 : decide ((s.size : Int) < (s.size : Int)) = false := decide_eq_false (by omega)
      have hst := scan_stop (k := k) (u := s.data.toList.drop s.size) (fun _ c hc => by rw [← hlen, List.drop_length] at hc; cases hc)
      have HC : Aside0 (candR s.data.toList = none) := ⟨by
        have HSC : scan 0 (DRefTxt.start s.data.toList) = (f, s.data.toList.drop s.size) := stop_pair hst H1.out H2.out
        rw [HCA.out]
        unfold manR
        rw [HSC]
        have h3 : expR (s.data.toList.drop s.size) = none := by
          rw [← hlen, List.drop_length]
          rfl
        simp only
        rw [h3]
        rfl⟩
      clear H1 H2 HM hst hlt
      go_wp2_with fail
      go_ret2
      exact ⟨⟨0, 3, ansR_none HC.out, rfl⟩, Below.refl _ _⟩
set_option maxHeartbeats 3200000 in
set_option maxRecDepth 100000 in
theorem parse_man4_p (s : ByteArray) (w : World) (hn : (s.toList == [110, 97, 110]) = false) (d0 : decide ((0 : Int) < (s.size : Int)) = true) (d0n : decide (0 < s.size) = true) (c0 : Nat) (hi0 : (Instr.index 9 (.string s) (.int .i64 0)).run Tryd.prog w = .ok (.int .u8 (c0 : Int)) w) (d45 : ((c0 : Int) == 45) = false) (hz : (s.toList == [48]) = false) (hi : (s.toList == [105, 110, 102]) = false) (ht3 : 3 < s.data.toList.length ∧ s.data.toList.length < 40) (htk : s.data.toList.take 2 = [48, 120]) (hc3 : s.data.toList.getD 3 0 = 46) (HCA : Aside0 (candR s.data.toList = (manR s.data.toList).map fun m => m)) : Calls Tryd.prog 10 #[.string s] w (Good s.data.toList w) := by
  have HTT : Aside0 (s.toList = s.data.toList) := ⟨Lib.toList_data s⟩
  have hs := Lib.size_eq s
  have k1 : decide ((3 : Int) < (s.size : Int)) = true := decide_eq_true (by omega)
  have k2 : decide (3 < s.size) = true := decide_eq_true (by omega)
  have k3 : decide ((s.size : Int) < 40) = true := decide_eq_true (by omega)
  have k4 : decide (s.size < 40) = true := decide_eq_true (by omega)
  have h2 := head_two s w (by omega)
  rw [htk] at h2
  have h2b : (Instr.slice 9 (.string s) none (some (.int .i64 2)) none).run Tryd.prog w = .ok (.string ⟨#[48, 120]⟩) w := h2
  have HST : Aside0 (DRefTxt.start s.data.toList = s.data.toList.drop 4) := ⟨by
    unfold DRefTxt.start
    have h4 : s.data.toList[3]? = some (s.data.toList.getD 3 0) := by
      rw [List.getD_eq_getElem?_getD, List.getElem?_eq_getElem (by omega)]
      rfl
    rw [h4, if_pos (congrArg some hc3)]⟩
  have h3 : (Instr.index 9 (.string s) (.int .i64 3)).run Tryd.prog w = .ok (.int .u8 46) w := by
    have := idx s 3 w (by omega)
    rw [hc3] at this
    exact this
  have HLN := Aside0.mk ht3
  have HS := Aside0.mk hs
  clear hs ht3 htk hc3 h2
  go_enter Tryd.func10, Tryd.ntmps10
  go_wp2_with fail
  clear k1 k2 k3 k4 hz hi hn d0 d0n h2b h3 hi0 d45
  go_loop [6, 7, 8] (fun sa sf sk => ∃ a k f : Nat, 4 ≤ a ∧ a ≤ s.size ∧ k ≤ 13 ∧ f < 4503599627370496 ∧ sa = .int .i64 a ∧ sf = .int .u64 f ∧ sk = .int .i64 k ∧ Aside0 (f % 16 ^ (13 - k) = 0) ∧ Aside0 (f + (scan k (s.data.toList.drop a)).1 = (scan 0 (DRefTxt.start s.data.toList)).1) ∧ Aside0 ((scan k (s.data.toList.drop a)).2 = (scan 0 (DRefTxt.start s.data.toList)).2)) (fun sa _ _ => s.size - (intOf sa).toNat)
  case atStart => exact ⟨4, 0, 0, by omega, by have := HLN.out; have := HS.out; omega, by omega, by omega, rfl, rfl, rfl, ⟨Nat.zero_mod _⟩, ⟨by rw [HST.out, Nat.zero_add]⟩, ⟨by rw [HST.out]⟩⟩
  case round =>
    obtain ⟨a, k, f, ha, has, hk, hf, rfl, rfl, rfl, HM, H1, H2⟩ := hrel
    have h40 : s.size < 40 := by
      have := HLN.out
      have := HS.out
      omega
    have hlen : s.data.toList.length = s.size := HS.out.symm
    by_cases hlt : a < s.size
    · have hal : a < s.data.toList.length := by omega
      have d1 : decide ((a : Int) < (s.size : Int)) = true := decide_eq_true (by omega)
      have d2 : decide (a < s.size) = true := decide_eq_true hlt
      have hix := idx s a w hal
      have hhd := head_at (T := s.data.toList) (i := a) hal
      have hgo0 := fun (h1 : k < 13) => scan_go (T := s.data.toList) h1 hal
      generalize hcd : s.data.toList.getD a 0 = c at *
      by_cases hk13 : k < 13
      · have d3 : decide ((k : Int) < 13) = true := decide_eq_true (by omega)
        have d4 : decide (k < 13) = true := decide_eq_true hk13
        by_cases hd : 0 ≤ dgv c
        · have d5 : decide (0 ≤ dgv c) = true := decide_eq_true hd
          have hd15 := dgv_le c
          have hgo := hgo0 hk13 hd
          obtain ⟨o1, o2, o3⟩ := or_dig (f := f) (q := (dgv c).toNat) hk13 (by omega) hf HM.out
          have hsh := shl_dig hk13 hd hd15
          have HM2 := Aside0.mk o3
          have HA1 : Aside0 (f + (dgv c).toNat * 16 ^ (12 - k) + (scan (k + 1) (s.data.toList.drop (a + 1))).1 = (scan 0 (DRefTxt.start s.data.toList)).1) := ⟨by
            have h5 := H1.out
            rw [hgo.1] at h5
            omega⟩
          have HA2 : Aside0 ((scan (k + 1) (s.data.toList.drop (a + 1))).2 = (scan 0 (DRefTxt.start s.data.toList)).2) := ⟨by
            rw [← hgo.2]
            exact H2.out⟩
          have x1 : IntKind.u64.wrap (dgv c) = dgv c := by
            rw [u64w]
            omega
          have x2 : IntKind.i64.wrap (4 * (k : Int)) = 4 * (k : Int) := (i64_w _).trans (w64 (by omega) (by omega))
          have x3 : IntKind.i64.wrap (48 - 4 * (k : Int)) = 48 - 4 * (k : Int) := (i64_w _).trans (w64 (by omega) (by omega))
          have x4 : IntKind.i64.wrap ((k : Int) + 1) = (k : Int) + 1 := (i64_w _).trans (w64 (by omega) (by omega))
          have x5 : IntKind.i64.wrap ((a : Int) + 1) = (a : Int) + 1 := (i64_w _).trans (w64 (by omega) (by omega))
          clear H1 H2 HM o3 hgo hgo0 hal hlen hhd hcd
          have HDC : Aside0 (∀ w, Calls Tryd.prog 22 #[.int .u8 (c.toNat : Int)] w fun e w' => e = .returned (.int .i64 (dgv c)) ∧ w' = w) := ⟨fun w => digit_calls _ w⟩
          generalize (dgv c).toNat * 16 ^ (12 - k) = q at *
          generalize dgv c = D at *
          generalize c.toNat = cn at *
          go_wp2_with (go_at_call 22; refine (HDC.out _).mono ?_; rintro e w' ⟨rfl, hw'⟩; obtain rfl := hw'.symm)
          go_round
          case rel => exact ⟨a + 1, k + 1, f + q, by omega, by omega, by omega, o2, by first | rfl | go_num, by first | rfl | go_num, by first | rfl | go_num, HM2, HA1, HA2⟩
          case measure =>
            simp [intOf]
            omega
        · have d5 : decide (0 ≤ dgv c) = false := decide_eq_false hd
          have hst := scan_stop (k := k) (u := s.data.toList.drop a) (fun _ c hc => by rw [hhd] at hc; rw [← Option.some.inj hc]; omega)
          have HSC : Aside0 (scan 0 (DRefTxt.start s.data.toList) = (f, s.data.toList.drop a)) := ⟨stop_pair hst H1.out H2.out⟩
          have HDC : Aside0 (∀ w, Calls Tryd.prog 22 #[.int .u8 (c.toNat : Int)] w fun e w' => e = .returned (.int .i64 (dgv c)) ∧ w' = w) := ⟨fun w => digit_calls _ w⟩
          clear H1 H2 HM hst hd hgo0
          have hixx := hix
          generalize hD : dgv c = D at *
          have HDD0 := Aside0.mk hD
          clear hD
          have hc0 := Aside0.mk hhd
          by_cases h112 : c = 112
          · have d112 : ((c.toNat : Int) == 112) = true := by
              rw [h112]
              rfl
            have HEX : Aside0 (manR s.data.toList = match numR (s.data.toList.drop (a + 1)) with
              | some e => if -1022 ≤ e ∧ e ≤ 1023 then some ((if s.data.toList[2]? = some 49 then (e + 1023).toNat * 4503599627370496 else 0) + f) else none
              | none => none) := ⟨by
                unfold manR
                rw [HSC.out]
                have h3 : expR (s.data.toList.drop a) = numR (s.data.toList.drop (a + 1)) := by
                  unfold expR
                  rw [hc0.out, h112, if_pos rfl, List.drop_drop]
                simp only
                rw [h3]
                rfl⟩
            clear h112 hc0 HSC hhd hcd
            generalize c.toNat = cn at *
            have HDD : Aside0 ((s.extract (a + 1) s.size).data.toList = s.data.toList.drop (a + 1)) := ⟨Lib.extract_to_end s (a + 1)⟩
            have HSZ2 : Aside0 ((s.extract (a + 1) s.size).size ≤ 140737488355328) := ⟨by
              rw [Lib.size_eq, HDD.out, List.length_drop]
              omega⟩
            have ew1 : IntKind.i64.wrap ((a : Int) + 1) = (a : Int) + 1 := (i64_w _).trans (w64 (by omega) (by omega))
            go_wp2_with (go_at_call 22; refine (HDC.out _).mono ?_; rintro e w' ⟨rfl, hw'⟩; obtain rfl := hw'.symm)
            refine (number_calls (s.extract (a + 1) s.size) w HSZ2.out).mono ?_
            unfold DRefNum.NumPost
            rw [HDD.out]
            rintro e w3 ⟨rfl, rfl⟩
            cases hU : numR (s.data.toList.drop (a + 1)) with
            | none =>
              have HC : Aside0 (candR s.data.toList = none) := ⟨by
                rw [HCA.out, HEX.out, hU]
                rfl⟩
              simp only [Option.getD_none, Option.isSome_none]
              clear HEX hU
              go_wp2_with fail
              go_ret2
              exact ⟨⟨0, 3, ansR_none HC.out, rfl⟩, Below.refl _ _⟩
            | some e =>
              simp only [Option.getD_some, Option.isSome_some]
              rw [hU] at HEX
              by_cases h1 : e < -1022
              · have HC : Aside0 (candR s.data.toList = none) := ⟨by
                  rw [HCA.out, HEX.out]
                  simp only
                  rw [if_neg (by omega)]
                  rfl⟩
                have q1 : decide (e < -1022) = true := decide_eq_true h1
                clear HEX hU h1
                go_wp2_with fail
                go_ret2
                exact ⟨⟨0, 3, ansR_none HC.out, rfl⟩, Below.refl _ _⟩
              · have q1 : decide (e < -1022) = false := decide_eq_false h1
                by_cases h2 : 1023 < e
                · have HC : Aside0 (candR s.data.toList = none) := ⟨by
                    rw [HCA.out, HEX.out]
                    simp only
                    rw [if_neg (by omega)]
                    rfl⟩
                  have q2 : decide (1023 < e) = true := decide_eq_true h2
                  clear HEX hU h1 h2
                  go_wp2_with fail
                  go_ret2
                  exact ⟨⟨0, 3, ansR_none HC.out, rfl⟩, Below.refl _ _⟩
                · have q2 : decide (1023 < e) = false := decide_eq_false h2
                  obtain ⟨X, hX⟩ : ∃ X : Nat, (X : Int) = e + 1023 := ⟨(e + 1023).toNat, by omega⟩
                  have eX : (e + 1023).toNat = X := by omega
                  have r1 : IntKind.i64.wrap (e + 1023) = (X : Int) := by rw [i64_w, w64 (by omega) (by omega)]; omega
                  have r2 : IntKind.u64.wrap (X : Int) = (X : Int) := by
                    rw [u64w]
                    omega
                  obtain ⟨XX, hXX⟩ : ∃ XX, X * 4503599627370496 = XX := ⟨_, rfl⟩
                  have r3 : IntKind.u64.wrap ((X : Int) * 4503599627370496) = (XX : Int) := by
                    rw [u64w]
                    omega
                  have HXL : Aside0 (X < 2047) := ⟨by omega⟩
                  by_cases h49 : s.data.toList.getD 2 0 = 49
                  · have hi2 : (Instr.index 9 (.string s) (.int .i64 2)).run Tryd.prog w3 = .ok (.int .u8 49) w3 := by
                      have := idx s 2 w3 (by omega)
                      rw [h49] at this
                      exact this
                    obtain ⟨Y, hY⟩ : ∃ Y, XX + f = Y := ⟨_, rfl⟩
                    have HC : Aside0 (candR s.data.toList = some Y) := ⟨by
                      rw [HCA.out, HEX.out]
                      simp only
                      rw [if_pos ⟨by omega, by omega⟩, if_pos (by rw [List.getElem?_eq_getElem (by omega)]; rw [List.getD_eq_getElem?_getD, List.getElem?_eq_getElem (by omega)] at h49; exact congrArg some h49), eX, hXX, ← hY]
                      rfl⟩
                    have o1 : Go.bits .or .u64 0 (XX : Int) = (XX : Int) := or_zero _ (by omega)
                    have o2 : Go.bits .or .u64 (XX : Int) (f : Int) = (Y : Int) := by
                      have h5 := or_add4 (x := X) (r := f) (by omega) hf
                      rw [hXX] at h5
                      rw [h5]
                      omega
                    have HYL : Aside0 (Y < 18446744073709551616) := ⟨by omega⟩
                    clear HEX hU h1 h2 eX h49
                    clear hY hXX hX
                    go_wp2_with fail
                    refine (DRefText.text_calls Y (by have := HYL.out; omega) _).mono ?_
                    rintro e w9 ⟨rfl, hB⟩
                    have HB9 := Aside0.mk hB
                    clear hB
                    by_cases ht : txt Y = s.data.toList
                    · have d7 : (txt Y == s.toList) = true := by rw [HTT.out, ht]; exact beq_self_eq_true _
                      have d8 : (txt Y != s.toList) = false := by rw [bne, d7]; rfl
                      have HT := Aside0.mk ht
                      clear ht
                      go_wp2_with fail
                      go_ret2
                      exact ⟨⟨Y, 0, ansR_some HC.out HT.out, rfl⟩, HB9.out⟩
                    · have d7 : (txt Y == s.toList) = false := by rw [HTT.out]; exact beq_eq_false_iff_ne.2 ht
                      have d8 : (txt Y != s.toList) = true := by rw [bne, d7]; rfl
                      have HT := Aside0.mk ht
                      clear ht
                      go_wp2_with fail
                      go_ret2
                      exact ⟨⟨0, 3, ansR_bad HC.out HT.out, rfl⟩, HB9.out⟩
                  · have hi2 := idx s 2 w3 (by omega)
                    have hi3 : (Instr.index 9 (.string s) (.int .i64 2)).run Tryd.prog w3 = .ok (.int .u8 ((s.data.toList.getD 2 0).toNat : Int)) w3 := hi2
                    have hne : ((s.data.toList.getD 2 0).toNat : Int) ≠ 49 := fun h => h49 (UInt8.toNat_inj.1 (by
                      have : (49 : UInt8).toNat = 49 := rfl
                      omega))
                    have d49 : (((s.data.toList.getD 2 0).toNat : Int) == 49) = false := beq_eq_false_iff_ne.2 hne
                    obtain ⟨Y, hY⟩ : ∃ Y, f = Y := ⟨_, rfl⟩
                    have HC : Aside0 (candR s.data.toList = some Y) := ⟨by
                      rw [HCA.out, HEX.out]
                      simp only
                      rw [if_pos ⟨by omega, by omega⟩, if_neg (by rw [List.getElem?_eq_getElem (by omega)]; rw [List.getD_eq_getElem?_getD, List.getElem?_eq_getElem (by omega)] at h49; exact fun h => h49 (Option.some.inj h)), Nat.zero_add, ← hY]
                      rfl⟩
                    have o1 : Go.bits .or .u64 0 (f : Int) = (Y : Int) := by
                      rw [or_zero _ (by omega)]
                      omega
                    have HYL : Aside0 (Y < 18446744073709551616) := ⟨by omega⟩
                    clear hi2
                    generalize (s.data.toList.getD 2 0).toNat = c2 at *
                    clear HEX hU h1 h2 eX h49 hne
                    clear hY hXX hX
                    go_wp2_with fail
                    refine (DRefText.text_calls Y (by have := HYL.out; omega) _).mono ?_
                    rintro e w9 ⟨rfl, hB⟩
                    have HB9 := Aside0.mk hB
                    clear hB
                    by_cases ht : txt Y = s.data.toList
                    · have d7 : (txt Y == s.toList) = true := by rw [HTT.out, ht]; exact beq_self_eq_true _
                      have d8 : (txt Y != s.toList) = false := by rw [bne, d7]; rfl
                      have HT := Aside0.mk ht
                      clear ht
                      go_wp2_with fail
                      go_ret2
                      exact ⟨⟨Y, 0, ansR_some HC.out HT.out, rfl⟩, HB9.out⟩
                    · have d7 : (txt Y == s.toList) = false := by rw [HTT.out]; exact beq_eq_false_iff_ne.2 ht
                      have d8 : (txt Y != s.toList) = true := by rw [bne, d7]; rfl
                      have HT := Aside0.mk ht
                      clear ht
                      go_wp2_with fail
                      go_ret2
                      exact ⟨⟨0, 3, ansR_bad HC.out HT.out, rfl⟩, HB9.out⟩
          · have hne : (c.toNat : Int) ≠ 112 := fun h => h112 (UInt8.toNat_inj.1 (by
              have : (112 : UInt8).toNat = 112 := rfl
              omega))
            have d112 : ((c.toNat : Int) == 112) = false := beq_eq_false_iff_ne.2 hne
            have HC : Aside0 (candR s.data.toList = none) := ⟨by
              rw [HCA.out]
              unfold manR
              rw [HSC.out]
              have h3 : expR (s.data.toList.drop a) = none := by
                unfold expR
                rw [hc0.out, if_neg (fun h => h112 (Option.some.inj h))]
              simp only
              rw [h3]
              rfl⟩
            clear hc0 HSC h112 hhd hcd
            generalize c.toNat = cn at *
            clear hne
            go_wp2_with (go_at_call 22; refine (HDC.out _).mono ?_; rintro e w' ⟨rfl, hw'⟩; obtain rfl := hw'.symm)
            go_ret2
            exact ⟨⟨0, 3, ansR_none HC.out, rfl⟩, Below.refl _ _⟩
      · have d3 : decide ((k : Int) < 13) = false := decide_eq_false (by omega)
        have d4 : decide (k < 13) = false := decide_eq_false hk13
        have hst := scan_stop (k := k) (u := s.data.toList.drop a) (fun h => absurd h hk13)
        have HSC : Aside0 (scan 0 (DRefTxt.start s.data.toList) = (f, s.data.toList.drop a)) := ⟨stop_pair hst H1.out H2.out⟩
        clear H1 H2 HM hst hgo0
        have hc0 := Aside0.mk hhd
        by_cases h112 : c = 112
        · have d112 : ((c.toNat : Int) == 112) = true := by
            rw [h112]
            rfl
          have HEX : Aside0 (manR s.data.toList = match numR (s.data.toList.drop (a + 1)) with
            | some e => if -1022 ≤ e ∧ e ≤ 1023 then some ((if s.data.toList[2]? = some 49 then (e + 1023).toNat * 4503599627370496 else 0) + f) else none
            | none => none) := ⟨by
              unfold manR
              rw [HSC.out]
              have h3 : expR (s.data.toList.drop a) = numR (s.data.toList.drop (a + 1)) := by
                unfold expR
                rw [hc0.out, h112, if_pos rfl, List.drop_drop]
              simp only
              rw [h3]
              rfl⟩
          clear h112 hc0 HSC hhd hcd
          generalize c.toNat = cn at *
          have HDD : Aside0 ((s.extract (a + 1) s.size).data.toList = s.data.toList.drop (a + 1)) := ⟨Lib.extract_to_end s (a + 1)⟩
          have HSZ2 : Aside0 ((s.extract (a + 1) s.size).size ≤ 140737488355328) := ⟨by
            rw [Lib.size_eq, HDD.out, List.length_drop]
            omega⟩
          have ew1 : IntKind.i64.wrap ((a : Int) + 1) = (a : Int) + 1 := (i64_w _).trans (w64 (by omega) (by omega))
          go_wp2_with fail
          refine (number_calls (s.extract (a + 1) s.size) w HSZ2.out).mono ?_
          unfold DRefNum.NumPost
          rw [HDD.out]
          rintro e w3 ⟨rfl, rfl⟩
          cases hU : numR (s.data.toList.drop (a + 1)) with
          | none =>
            have HC : Aside0 (candR s.data.toList = none) := ⟨by
              rw [HCA.out, HEX.out, hU]
              rfl⟩
            simp only [Option.getD_none, Option.isSome_none]
            clear HEX hU
            go_wp2_with fail
            go_ret2
            exact ⟨⟨0, 3, ansR_none HC.out, rfl⟩, Below.refl _ _⟩
          | some e =>
            simp only [Option.getD_some, Option.isSome_some]
            rw [hU] at HEX
            by_cases h1 : e < -1022
            · have HC : Aside0 (candR s.data.toList = none) := ⟨by
                rw [HCA.out, HEX.out]
                simp only
                rw [if_neg (by omega)]
                rfl⟩
              have q1 : decide (e < -1022) = true := decide_eq_true h1
              clear HEX hU h1
              go_wp2_with fail
              go_ret2
              exact ⟨⟨0, 3, ansR_none HC.out, rfl⟩, Below.refl _ _⟩
            · have q1 : decide (e < -1022) = false := decide_eq_false h1
              by_cases h2 : 1023 < e
              · have HC : Aside0 (candR s.data.toList = none) := ⟨by
                  rw [HCA.out, HEX.out]
                  simp only
                  rw [if_neg (by omega)]
                  rfl⟩
                have q2 : decide (1023 < e) = true := decide_eq_true h2
                clear HEX hU h1 h2
                go_wp2_with fail
                go_ret2
                exact ⟨⟨0, 3, ansR_none HC.out, rfl⟩, Below.refl _ _⟩
              · have q2 : decide (1023 < e) = false := decide_eq_false h2
                obtain ⟨X, hX⟩ : ∃ X : Nat, (X : Int) = e + 1023 := ⟨(e + 1023).toNat, by omega⟩
                have eX : (e + 1023).toNat = X := by omega
                have r1 : IntKind.i64.wrap (e + 1023) = (X : Int) := by rw [i64_w, w64 (by omega) (by omega)]; omega
                have r2 : IntKind.u64.wrap (X : Int) = (X : Int) := by
                  rw [u64w]
                  omega
                obtain ⟨XX, hXX⟩ : ∃ XX, X * 4503599627370496 = XX := ⟨_, rfl⟩
                have r3 : IntKind.u64.wrap ((X : Int) * 4503599627370496) = (XX : Int) := by
                  rw [u64w]
                  omega
                have HXL : Aside0 (X < 2047) := ⟨by omega⟩
                by_cases h49 : s.data.toList.getD 2 0 = 49
                · have hi2 : (Instr.index 9 (.string s) (.int .i64 2)).run Tryd.prog w3 = .ok (.int .u8 49) w3 := by
                    have := idx s 2 w3 (by omega)
                    rw [h49] at this
                    exact this
                  obtain ⟨Y, hY⟩ : ∃ Y, XX + f = Y := ⟨_, rfl⟩
                  have HC : Aside0 (candR s.data.toList = some Y) := ⟨by
                    rw [HCA.out, HEX.out]
                    simp only
                    rw [if_pos ⟨by omega, by omega⟩, if_pos (by rw [List.getElem?_eq_getElem (by omega)]; rw [List.getD_eq_getElem?_getD, List.getElem?_eq_getElem (by omega)] at h49; exact congrArg some h49), eX, hXX, ← hY]
                    rfl⟩
                  have o1 : Go.bits .or .u64 0 (XX : Int) = (XX : Int) := or_zero _ (by omega)
                  have o2 : Go.bits .or .u64 (XX : Int) (f : Int) = (Y : Int) := by
                    have h5 := or_add4 (x := X) (r := f) (by omega) hf
                    rw [hXX] at h5
                    rw [h5]
                    omega
                  have HYL : Aside0 (Y < 18446744073709551616) := ⟨by omega⟩
                  clear HEX hU h1 h2 eX h49
                  clear hY hXX hX
                  go_wp2_with fail
                  refine (DRefText.text_calls Y (by have := HYL.out; omega) _).mono ?_
                  rintro e w9 ⟨rfl, hB⟩
                  have HB9 := Aside0.mk hB
                  clear hB
                  by_cases ht : txt Y = s.data.toList
                  · have d7 : (txt Y == s.toList) = true := by rw [HTT.out, ht]; exact beq_self_eq_true _
                    have d8 : (txt Y != s.toList) = false := by rw [bne, d7]; rfl
                    have HT := Aside0.mk ht
                    clear ht
                    go_wp2_with fail
                    go_ret2
                    exact ⟨⟨Y, 0, ansR_some HC.out HT.out, rfl⟩, HB9.out⟩
                  · have d7 : (txt Y == s.toList) = false := by rw [HTT.out]; exact beq_eq_false_iff_ne.2 ht
                    have d8 : (txt Y != s.toList) = true := by rw [bne, d7]; rfl
                    have HT := Aside0.mk ht
                    clear ht
                    go_wp2_with fail
                    go_ret2
                    exact ⟨⟨0, 3, ansR_bad HC.out HT.out, rfl⟩, HB9.out⟩
                · have hi2 := idx s 2 w3 (by omega)
                  have hi3 : (Instr.index 9 (.string s) (.int .i64 2)).run Tryd.prog w3 = .ok (.int .u8 ((s.data.toList.getD 2 0).toNat : Int)) w3 := hi2
                  have hne : ((s.data.toList.getD 2 0).toNat : Int) ≠ 49 := fun h => h49 (UInt8.toNat_inj.1 (by
                    have : (49 : UInt8).toNat = 49 := rfl
                    omega))
                  have d49 : (((s.data.toList.getD 2 0).toNat : Int) == 49) = false := beq_eq_false_iff_ne.2 hne
                  obtain ⟨Y, hY⟩ : ∃ Y, f = Y := ⟨_, rfl⟩
                  have HC : Aside0 (candR s.data.toList = some Y) := ⟨by
                    rw [HCA.out, HEX.out]
                    simp only
                    rw [if_pos ⟨by omega, by omega⟩, if_neg (by rw [List.getElem?_eq_getElem (by omega)]; rw [List.getD_eq_getElem?_getD, List.getElem?_eq_getElem (by omega)] at h49; exact fun h => h49 (Option.some.inj h)), Nat.zero_add, ← hY]
                    rfl⟩
                  have o1 : Go.bits .or .u64 0 (f : Int) = (Y : Int) := by
                    rw [or_zero _ (by omega)]
                    omega
                  have HYL : Aside0 (Y < 18446744073709551616) := ⟨by omega⟩
                  clear hi2
                  generalize (s.data.toList.getD 2 0).toNat = c2 at *
                  clear HEX hU h1 h2 eX h49 hne
                  clear hY hXX hX
                  go_wp2_with fail
                  refine (DRefText.text_calls Y (by have := HYL.out; omega) _).mono ?_
                  rintro e w9 ⟨rfl, hB⟩
                  have HB9 := Aside0.mk hB
                  clear hB
                  by_cases ht : txt Y = s.data.toList
                  · have d7 : (txt Y == s.toList) = true := by rw [HTT.out, ht]; exact beq_self_eq_true _
                    have d8 : (txt Y != s.toList) = false := by rw [bne, d7]; rfl
                    have HT := Aside0.mk ht
                    clear ht
                    go_wp2_with fail
                    go_ret2
                    exact ⟨⟨Y, 0, ansR_some HC.out HT.out, rfl⟩, HB9.out⟩
                  · have d7 : (txt Y == s.toList) = false := by rw [HTT.out]; exact beq_eq_false_iff_ne.2 ht
                    have d8 : (txt Y != s.toList) = true := by rw [bne, d7]; rfl
                    have HT := Aside0.mk ht
                    clear ht
                    go_wp2_with fail
                    go_ret2
                    exact ⟨⟨0, 3, ansR_bad HC.out HT.out, rfl⟩, HB9.out⟩
        · have hne : (c.toNat : Int) ≠ 112 := fun h => h112 (UInt8.toNat_inj.1 (by
            have : (112 : UInt8).toNat = 112 := rfl
            omega))
          have d112 : ((c.toNat : Int) == 112) = false := beq_eq_false_iff_ne.2 hne
          have HC : Aside0 (candR s.data.toList = none) := ⟨by
            rw [HCA.out]
            unfold manR
            rw [HSC.out]
            have h3 : expR (s.data.toList.drop a) = none := by
              unfold expR
              rw [hc0.out, if_neg (fun h => h112 (Option.some.inj h))]
            simp only
            rw [h3]
            rfl⟩
          clear hc0 HSC h112 hhd hcd
          generalize c.toNat = cn at *
          clear hne
          go_wp2_with fail
          go_ret2
          exact ⟨⟨0, 3, ansR_none HC.out, rfl⟩, Below.refl _ _⟩
    · obtain rfl : a = s.size := by omega
      have d1 : decide ((s.size : Int) < (s.size : Int)) = false := decide_eq_false (by omega)
      have hst := scan_stop (k := k) (u := s.data.toList.drop s.size) (fun _ c hc => by rw [← hlen, List.drop_length] at hc; cases hc)
      have HC : Aside0 (candR s.data.toList = none) := ⟨by
        have HSC : scan 0 (DRefTxt.start s.data.toList) = (f, s.data.toList.drop s.size) := stop_pair hst H1.out H2.out
        rw [HCA.out]
        unfold manR
        rw [HSC]
        have h3 : expR (s.data.toList.drop s.size) = none := by
          rw [← hlen, List.drop_length]
          rfl
        simp only
        rw [h3]
        rfl⟩
      clear H1 H2 HM hst hlt
      go_wp2_with fail
      go_ret2
      exact ⟨⟨0, 3, ansR_none HC.out, rfl⟩, Below.refl _ _⟩
end Go.Proofs.YtjaeligjcgjamaaDoor.DRefMan
