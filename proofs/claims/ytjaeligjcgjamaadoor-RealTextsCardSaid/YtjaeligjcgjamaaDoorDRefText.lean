/- What the reference's Text answers: the text of a float. -/
import Derived.Test.YtjaeligjcgjamaaDoorDRefDig
namespace Go.Proofs.YtjaeligjcgjamaaDoor.DRefText
open Go.RowKit Go.Proofs.YtjaeligjcgjamaaDoor.PRealOrder Go.Proofs.YtjaeligjcgjamaaDoorW.PrintWords Go.Proofs.YtjaeligjcgjamaaDoorW.PrintLast Go.Proofs.YtjaeligjcgjamaaDoorW.PrintMore Go.Proofs.YtjaeligjcgjamaaDoor.Aid Go.Proofs.YtjaeligjcgjamaaDoor.FloatPlain Go.Proofs.YtjaeligjcgjamaaDoor.DRealPure Go.Proofs.YtjaeligjcgjamaaDoor.DHex Go.Proofs.YtjaeligjcgjamaaDoor.DUnhex Go.Proofs.YtjaeligjcgjamaaDoor.DUnhexAny Go.Proofs.YtjaeligjcgjamaaDoor.DWorks Go.Proofs.YtjaeligjcgjamaaDoor.DTxt Go.Proofs.YtjaeligjcgjamaaDoor.DTextW Go.Proofs.YtjaeligjcgjamaaDoor.DRefDig
set_option linter.unusedVariables false
set_option linter.unusedSimpArgs false
/-- What is left of a fraction when k digits are told. -/
def rest (f k : Nat) : Nat := f % 16 ^ (13 - k) * 16 ^ k
theorem rest_zero (f : Nat) (h : f < 4503599627370496) : rest f 0 = f := by
  unfold rest
  rw [Nat.pow_zero, Nat.mul_one]
  exact Nat.mod_eq_of_lt (by simpa using h)
theorem rest_lt (f k : Nat) (h : k ≤ 13) : rest f k < 4503599627370496 := by
  unfold rest
  have h1 : f % 16 ^ (13 - k) < 16 ^ (13 - k) := Nat.mod_lt _ (Nat.pow_pos (by decide))
  have h2 : 16 ^ (13 - k) * 16 ^ k = 4503599627370496 := by
    rw [← Nat.pow_add, show 13 - k + k = 13 by omega]
  have h3 : f % 16 ^ (13 - k) * 16 ^ k < 16 ^ (13 - k) * 16 ^ k := Nat.mul_lt_mul_of_pos_right h1 (Nat.pow_pos (by decide))
  omega
theorem rest_full (f : Nat) : rest f 13 = 0 := by
  unfold rest
  rw [Nat.sub_self, Nat.pow_zero, Nat.mod_one, Nat.zero_mul]
theorem rest_step (f k : Nat) (h : k < 13) : rest f k * 16 % 4503599627370496 = rest f (k + 1) := by
  unfold rest
  have e : (4503599627370496 : Nat) = 16 ^ (13 - (k + 1)) * 16 ^ (k + 1) := by
    rw [← Nat.pow_add, show 13 - (k + 1) + (k + 1) = 13 by omega]
  rw [e, Nat.mul_assoc, ← Nat.pow_succ, Nat.mul_mod_mul_right]
  congr 1
  exact Nat.mod_mod_of_dvd _ (Nat.pow_dvd_pow 16 (by omega))
theorem rest_digit (f k : Nat) (h : k < 13) : rest f k / 281474976710656 = f / 16 ^ (12 - k) % 16 := by
  unfold rest
  have e : (281474976710656 : Nat) = 16 ^ (12 - k) * 16 ^ k := by
    rw [← Nat.pow_add, show 12 - k + k = 12 by omega]
  have e2 : 13 - k = 12 - k + 1 := by omega
  rw [e, Nat.mul_div_mul_right _ _ (Nat.pow_pos (by decide)), e2, Nat.pow_succ, Nat.mod_mul_right_div_self]
theorem rest_none {f k : Nat} (h : rest f k = 0) : f % 16 ^ (13 - k) = 0 := by
  unfold rest at h
  rcases Nat.mul_eq_zero.1 h with h | h
  · exact h
  · have := Nat.pow_pos (n := k) (show 0 < 16 by decide)
    omega
/-- What the loop has told when nothing is left. -/
theorem told {f k : Nat} (hk : k ≤ 13) (h0 : rest f k = 0) (h1 : k = 0 ∨ rest f (k - 1) ≠ 0) : (h13 f).take k = Lib.trimRightB (h13 f) 48 := by
  have hz := rest_none h0
  refine (Lib.trimRightB_take _ _ k (by rw [h13_length]; exact hk) (fun j b hj hb => ?_) (fun b hk0 hb => ?_)).symm
  · have hjl : j < (h13 f).length := by
      rcases Nat.lt_or_ge j (h13 f).length with h | h
      · exact h
      · rw [List.getElem?_eq_none h] at hb
        cases hb
    rw [List.getElem?_eq_getElem hjl, h13_get] at hb
    have hjl2 : j < 13 := by rw [h13_length] at hjl; exact hjl
    have hd0 : f / 16 ^ (12 - j) % 16 = 0 := by
      have e : f / 16 ^ (12 - j) % 16 = f % 16 ^ (13 - j) / 16 ^ (12 - j) := by
        rw [show 13 - j = 12 - j + 1 by omega, Nat.pow_succ, Nat.mod_mul_right_div_self]
      have e2 : f % 16 ^ (13 - j) = 0 := by
        have hdv : 16 ^ (13 - j) ∣ 16 ^ (13 - k) := Nat.pow_dvd_pow 16 (by omega)
        exact Nat.mod_eq_zero_of_dvd (Nat.dvd_trans hdv (Nat.dvd_of_mod_eq_zero hz))
      rw [e, e2, Nat.zero_div]
    rw [hd0] at hb
    exact (Option.some.inj hb).symm
  · have hkl : k - 1 < (h13 f).length := by rw [h13_length]; omega
    rw [List.getElem?_eq_getElem hkl, h13_get] at hb
    have hdn : f / 16 ^ (12 - (k - 1)) % 16 ≠ 0 := by
      intro hd0
      rcases h1 with h1 | h1
      · omega
      · apply h1
        unfold rest
        have e : f % 16 ^ (13 - (k - 1)) = 0 := by
          have e2 : 13 - (k - 1) = 13 - k + 1 := by omega
          have e3 : 12 - (k - 1) = 13 - k := by omega
          rw [e3] at hd0
          rw [e2, Nat.pow_succ, Nat.mod_mul, hz, hd0]
          rfl
        rw [e, Nat.zero_mul]
    intro hbc
    rw [← Option.some.inj hb] at hbc
    have hm : f / 16 ^ (12 - (k - 1)) % 16 < 16 := Nat.mod_lt _ (by decide)
    exact hdn ((hd_all ⟨_, hm⟩).2.2.2 hbc)
theorem letter (d : Nat) (h : d < 16) : (⟨#[48, 49, 50, 51, 52, 53, 54, 55, 56, 57, 97, 98, 99, 100, 101, 102]⟩ : ByteArray).extract d (d + 1) = ⟨[UInt8.ofNat (hd d)].toArray⟩ := by
  have hall : ∀ d : Fin 16, ((⟨#[48, 49, 50, 51, 52, 53, 54, 55, 56, 57, 97, 98, 99, 100, 101, 102]⟩ : ByteArray).data.toList.drop d.val).take (d.val + 1 - d.val) = [UInt8.ofNat (hd d.val)] := by decide
  rw [Lib.extract_eq, hall ⟨d, h⟩]
set_option maxHeartbeats 3200000 in
set_option maxRecDepth 100000 in
theorem text_inf_n (a : Nat) (w : World) (ds : decide ((9223372036854775808 : Int) ≤ (a : Int)) = true) (eP : Go.bits .andNot .u64 (a : Int) 9223372036854775808 = 9218868437227405312) (HT : Aside0 (txt a = [45] ++ [105, 110, 102])) : Calls Tryd.prog 12 #[.int .u64 a] w fun e w' => e = .returned (.string ⟨(txt a).toArray⟩) ∧ Below w.heap.size w w' := by
  go_enter Tryd.func12, Tryd.ntmps12
  go_wp2_with fail
  go_ret
  exact ⟨by rw [HT.out]; rfl, Below.refl _ _⟩
set_option maxHeartbeats 3200000 in
set_option maxRecDepth 100000 in
theorem text_zero_n (a : Nat) (w : World) (ds : decide ((9223372036854775808 : Int) ≤ (a : Int)) = true) (eP : Go.bits .andNot .u64 (a : Int) 9223372036854775808 = 0) (HT : Aside0 (txt a = [45] ++ [48])) : Calls Tryd.prog 12 #[.int .u64 a] w fun e w' => e = .returned (.string ⟨(txt a).toArray⟩) ∧ Below w.heap.size w w' := by
  go_enter Tryd.func12, Tryd.ntmps12
  go_wp2_with fail
  go_ret
  exact ⟨by rw [HT.out]; rfl, Below.refl _ _⟩
set_option maxHeartbeats 3200000 in
set_option maxRecDepth 100000 in
theorem text_nan_n (a : Nat) (w : World) (P : Nat) (hP : 9218868437227405312 < P) (ds : decide ((9223372036854775808 : Int) ≤ (a : Int)) = true) (eP : Go.bits .andNot .u64 (a : Int) 9223372036854775808 = (P : Int)) (HT : Aside0 (txt a = [110, 97, 110])) : Calls Tryd.prog 12 #[.int .u64 a] w fun e w' => e = .returned (.string ⟨(txt a).toArray⟩) ∧ Below w.heap.size w w' := by
  have d1 : decide ((9218868437227405312 : Int) < (P : Int)) = true := decide_eq_true (by omega)
  have d2 : decide (9218868437227405312 < P) = true := decide_eq_true hP
  clear hP
  go_enter Tryd.func12, Tryd.ntmps12
  go_wp2_with fail
  go_ret
  exact ⟨by rw [HT.out]; rfl, Below.refl _ _⟩
set_option maxHeartbeats 3200000 in
set_option maxRecDepth 100000 in
theorem text_sub_n (a : Nat) (w : World) (P : Nat) (hP : P < 9218868437227405312 ∧ 0 < P) (f : Nat) (hf : 0 < f ∧ f < 4503599627370496) (ds : decide ((9223372036854775808 : Int) ≤ (a : Int)) = true) (eP : Go.bits .andNot .u64 (a : Int) 9223372036854775808 = (P : Int)) (e1 : (P : Int) / 4503599627370496 = 0) (e2 : Go.bits .and .u64 (P : Int) 4503599627370495 = (f : Int)) (HT : Aside0 (txt a = [45] ++ body 0 f)) : Calls Tryd.prog 12 #[.int .u64 a] w fun e w' => e = .returned (.string ⟨(txt a).toArray⟩) ∧ Below w.heap.size w w' := by
  have d1 : decide ((9218868437227405312 : Int) < (P : Int)) = false := decide_eq_false (by omega)
  have d2 : decide (9218868437227405312 < P) = false := decide_eq_false (by omega)
  have d3 : ((P : Int) == 9218868437227405312) = false := beq_eq_false_iff_ne.2 (by omega)
  have d4 : ((P : Int) == 0) = false := beq_eq_false_iff_ne.2 (by omega)
  clear hP
  have d6 : ((f : Int) == 0) = false := beq_eq_false_iff_ne.2 (by omega)
  have HF := Aside0.mk hf
  have HR0 := Aside0.mk (rest_zero f hf.2)
  have HRE : Aside0 (f < 4503599627370496) := ⟨hf.2⟩
  have HR1 := Aside0.mk hf.1
  clear hf
  go_enter Tryd.func12, Tryd.ntmps12
  go_wp2_with fail
  clear d1 d2 d3 d4 d6 e1 e2 eP ds
  go_loop [4, 6, 9] (fun ss sf sd => ∃ k : Nat, k ≤ 13 ∧ ss = .string ⟨([45, 48, 120, 48, 46] ++ (h13 f).take k).toArray⟩ ∧ sf = .int .u64 (rest f k : Nat) ∧ Aside0 (k = 0 ∨ rest f (k - 1) ≠ 0)) (fun ss _ _ => 60 - Lib.strSize ss)
  case atStart => exact ⟨0, by omega, by rfl, by rw [HR0.out], ⟨.inl rfl⟩⟩
  case round =>
    obtain ⟨k, hk, rfl, rfl, HK⟩ := hrel
    have hlt := rest_lt f k hk
    have hkl : ((h13 f).take k).length = k := by rw [List.length_take, h13_length]; omega
    have hsz : (⟨([45, 48, 120, 48, 46] ++ (h13 f).take k).toArray⟩ : ByteArray).size = 5 + k := by rw [Lib.size_mk, List.length_append, hkl]; rfl
    by_cases hr : rest f k = 0
    · have HTL := Aside0.mk (told hk hr HK.out)
      rw [hr]
      have HS : Aside0 (⟨([45, 48, 120, 48, 46] ++ (h13 f).take k).toArray⟩ = (⟨([45, 48, 120, 48, 46] ++ (h13 f).take k).toArray⟩ : ByteArray)) := ⟨rfl⟩
      generalize hSB : (⟨([45, 48, 120, 48, 46] ++ (h13 f).take k).toArray⟩ : ByteArray) = S at *
      have HSB := Aside0.mk hSB
      have hc1 : ¬ (9223372036854775807 < S.size + 1) := by omega
      have HSZ : Aside0 (S.size ≤ 20) := ⟨by omega⟩
      clear HS hSB hsz hkl hr hlt
      go_wp2_with fail
      refine (digits_calls (-1022) (by omega) (by omega) _).mono ?_
      rintro e w5 ⟨rfl, hB⟩
      have HB5 := Aside0.mk hB
      have hIL := Lib.itoa_length_le (-1022) (by omega) (by omega)
      have hIZ : (⟨(Lib.itoa (-1022)).toArray⟩ : ByteArray).size = (Lib.itoa (-1022)).length := Lib.size_mk _
      generalize hIB : (⟨(Lib.itoa (-1022)).toArray⟩ : ByteArray) = I at *
      have hc5 : ¬ (9223372036854775807 < S.size + 1 + I.size) := by have := HSZ.out; omega
      have HIB := Aside0.mk hIB
      clear hB hIL hIZ hIB
      go_wp2_with fail
      go_ret
      refine ⟨?_, HB5.out⟩
      rw [← HIB.out, ← HSB.out]
      congr 2
      rw [HT.out, HTL.out]
      unfold body lead expo frac
      rw [if_pos rfl, if_pos rfl, if_neg (show ¬ f = 0 by have := HF.out; omega)]
      simp [ba_app]
    · have hk13 : k < 13 := by
        by_cases h : k < 13
        · exact h
        · obtain rfl : k = 13 := by omega
          exact absurd (rest_full f) hr
      have hdg := rest_digit f k hk13
      have hd16 : rest f k / 281474976710656 < 16 := by omega
      have HST := Aside0.mk (rest_step f k hk13)
      have HLE := Aside0.mk (letter (rest f k / 281474976710656) hd16)
      have HTK : Aside0 ([45, 48, 120, 48, 46] ++ (h13 f).take (k + 1) = [45, 48, 120, 48, 46] ++ (h13 f).take k ++ [UInt8.ofNat (hd (rest f k / 281474976710656))]) := ⟨by
        have hl : k < (h13 f).length := by rw [h13_length]; exact hk13
        rw [List.take_succ_eq_append_getElem hl, h13_get, hdg, List.append_assoc]⟩
      have HKN : Aside0 (rest f (k + 1 - 1) ≠ 0) := ⟨by rw [Nat.add_sub_cancel]; exact hr⟩
      generalize rest f k = g at *
      have HGE : Aside0 (∃ q, g / 281474976710656 = q) := ⟨_, rfl⟩
      have d7 : ((g : Int) == 0) = false := beq_eq_false_iff_ne.2 (by omega)
      have eg : (g : Int) / 281474976710656 = ((g / 281474976710656 : Nat) : Int) := by omega
      have es : Go.bits .and .u64 ((g : Int) * 16) 4503599627370495 = ((rest f (k + 1) : Nat) : Int) := by
        have h1 := and_low (a := g * 16) (by omega) 52 (by omega)
        have e21 : ((2 ^ 52 - 1 : Nat) : Int) = 4503599627370495 := by decide
        have q52 : (2 : Nat) ^ 52 = 4503599627370496 := by decide
        rw [e21, q52, HST.out] at h1
        rw [← h1]
        congr 1
      generalize hg2 : rest f (k + 1) = g2 at *
      have HG2 := Aside0.mk hg2
      clear hg2
      generalize hq : g / 281474976710656 = q at *
      have HQ := Aside0.mk hq
      have eq1 : IntKind.i64.wrap (q : Int) = (q : Int) := (i64_w _).trans (w64 (by omega) (by omega))
      have eq2 : IntKind.i64.wrap ((q : Int) + 1) = (q : Int) + 1 := (i64_w _).trans (w64 (by omega) (by omega))
      have ew : IntKind.u64.wrap ((g : Int) * 16) = (g : Int) * 16 := by
        rw [u64w]
        omega
      have hlet := HLE.out
      have hsl : (Instr.slice 9 (.string ⟨#[48, 49, 50, 51, 52, 53, 54, 55, 56, 57, 97, 98, 99, 100, 101, 102]⟩) (some (.int .i64 (q : Int))) (some (.int .i64 ((q : Int) + 1))) none).run Tryd.prog w = .ok (.string ⟨[UInt8.ofNat (hd q)].toArray⟩) w := by
        rw [run_slice_string w 9 _ .i64 .i64 (q : Int) ((q : Int) + 1) Tryd.underlying9 (by omega) (by omega) (by show _ ≤ ((16 : Nat) : Int); omega), ← hlet]
        rfl
      generalize UInt8.ofNat (hd q) = c at *
      generalize hSB : (⟨([45, 48, 120, 48, 46] ++ (h13 f).take k).toArray⟩ : ByteArray) = S at *
      have HSB := Aside0.mk hSB
      have hc1 : ¬ (9223372036854775807 < S.size + 1) := by omega
      have HQ16 := Aside0.mk hd16
      clear hq hdg hSB HGE hr hlt hlet HLE
      go_wp2_with fail
      go_round
      case rel => exact ⟨k + 1, by omega, by rw [HTK.out, ← HSB.out, ba_app], by rw [HG2.out], ⟨.inr HKN.out⟩⟩
      case measure =>
        simp [Lib.strSize_string, ByteArray.size_append', ByteArray.size_mk']
        omega
set_option maxHeartbeats 3200000 in
set_option maxRecDepth 100000 in
theorem text_whole_n (a : Nat) (w : World) (P : Nat) (hP : P < 9218868437227405312 ∧ 0 < P) (E : Nat) (hE : 1 ≤ E ∧ E < 2047) (ds : decide ((9223372036854775808 : Int) ≤ (a : Int)) = true) (eP : Go.bits .andNot .u64 (a : Int) 9223372036854775808 = (P : Int)) (e1 : (P : Int) / 4503599627370496 = (E : Int)) (e2 : Go.bits .and .u64 (P : Int) 4503599627370495 = 0) (HT : Aside0 (txt a = [45] ++ body E 0)) : Calls Tryd.prog 12 #[.int .u64 a] w fun e w' => e = .returned (.string ⟨(txt a).toArray⟩) ∧ Below w.heap.size w w' := by
  have d1 : decide ((9218868437227405312 : Int) < (P : Int)) = false := decide_eq_false (by omega)
  have d2 : decide (9218868437227405312 < P) = false := decide_eq_false (by omega)
  have d3 : ((P : Int) == 9218868437227405312) = false := beq_eq_false_iff_ne.2 (by omega)
  have d4 : ((P : Int) == 0) = false := beq_eq_false_iff_ne.2 (by omega)
  clear hP
  have d5 : ((E : Int) - 1023 == -1023) = false := beq_eq_false_iff_ne.2 (by omega)
  have ec : IntKind.i64.wrap (E : Int) = (E : Int) := (i64_w _).trans (w64 (by omega) (by omega))
  have ec2 : IntKind.i64.wrap ((E : Int) - 1023) = (E : Int) - 1023 := (i64_w _).trans (w64 (by omega) (by omega))
  have HE := Aside0.mk hE
  clear hE
  go_enter Tryd.func12, Tryd.ntmps12
  go_wp2_with fail
  go_loop [4, 6, 9] (fun ss sf sd => ∃ k : Nat, k ≤ 13 ∧ ss = .string ⟨([45, 48, 120, 49] ++ (h13 0).take k).toArray⟩ ∧ sf = .int .u64 (rest 0 k : Nat) ∧ Aside0 (k = 0 ∨ rest 0 (k - 1) ≠ 0)) (fun ss _ _ => 60 - Lib.strSize ss)
  case atStart => exact ⟨0, by omega, by rfl, by rfl, ⟨.inl rfl⟩⟩
  case round =>
    obtain ⟨k, hk, rfl, rfl, HK⟩ := hrel
    have hlt := rest_lt 0 k hk
    have hkl : ((h13 0).take k).length = k := by rw [List.length_take, h13_length]; omega
    have hsz : (⟨([45, 48, 120, 49] ++ (h13 0).take k).toArray⟩ : ByteArray).size = 4 + k := by rw [Lib.size_mk, List.length_append, hkl]; rfl
    by_cases hr : rest 0 k = 0
    · have HTL := Aside0.mk (told hk hr HK.out)
      rw [hr]
      have HS : Aside0 (⟨([45, 48, 120, 49] ++ (h13 0).take k).toArray⟩ = (⟨([45, 48, 120, 49] ++ (h13 0).take k).toArray⟩ : ByteArray)) := ⟨rfl⟩
      generalize hSB : (⟨([45, 48, 120, 49] ++ (h13 0).take k).toArray⟩ : ByteArray) = S at *
      have HSB := Aside0.mk hSB
      have hc1 : ¬ (9223372036854775807 < S.size + 1) := by omega
      have HSZ : Aside0 (S.size ≤ 20) := ⟨by omega⟩
      clear HS hSB hsz hkl hr hlt
      go_wp2_with fail
      refine (digits_calls ((E : Int) - 1023) (by have := HE.out; omega) (by have := HE.out; omega) _).mono ?_
      rintro e w5 ⟨rfl, hB⟩
      have HB5 := Aside0.mk hB
      have hIL := Lib.itoa_length_le ((E : Int) - 1023) (by have := HE.out; omega) (by have := HE.out; omega)
      have hIZ : (⟨(Lib.itoa ((E : Int) - 1023)).toArray⟩ : ByteArray).size = (Lib.itoa ((E : Int) - 1023)).length := Lib.size_mk _
      generalize hIB : (⟨(Lib.itoa ((E : Int) - 1023)).toArray⟩ : ByteArray) = I at *
      have hc5 : ¬ (9223372036854775807 < S.size + 1 + I.size) := by have := HSZ.out; omega
      have HIB := Aside0.mk hIB
      clear hB hIL hIZ hIB
      go_wp2_with fail
      go_ret
      refine ⟨?_, HB5.out⟩
      rw [← HIB.out, ← HSB.out]
      congr 2
      rw [HT.out, HTL.out]
      unfold body lead expo frac
      rw [if_neg (show ¬ E = 0 by have := HE.out; omega), if_neg (show ¬ E = 0 by have := HE.out; omega), if_pos rfl]
      rw [show Lib.trimRightB (h13 0) 48 = [] by decide]
      simp [ba_app]
    · have hk13 : k < 13 := by
        by_cases h : k < 13
        · exact h
        · obtain rfl : k = 13 := by omega
          exact absurd (rest_full 0) hr
      have hdg := rest_digit 0 k hk13
      have hd16 : rest 0 k / 281474976710656 < 16 := by omega
      have HST := Aside0.mk (rest_step 0 k hk13)
      have HLE := Aside0.mk (letter (rest 0 k / 281474976710656) hd16)
      have HTK : Aside0 ([45, 48, 120, 49] ++ (h13 0).take (k + 1) = [45, 48, 120, 49] ++ (h13 0).take k ++ [UInt8.ofNat (hd (rest 0 k / 281474976710656))]) := ⟨by
        have hl : k < (h13 0).length := by rw [h13_length]; exact hk13
        rw [List.take_succ_eq_append_getElem hl, h13_get, hdg, List.append_assoc]⟩
      have HKN : Aside0 (rest 0 (k + 1 - 1) ≠ 0) := ⟨by rw [Nat.add_sub_cancel]; exact hr⟩
      generalize rest 0 k = g at *
      have HGE : Aside0 (∃ q, g / 281474976710656 = q) := ⟨_, rfl⟩
      have d7 : ((g : Int) == 0) = false := beq_eq_false_iff_ne.2 (by omega)
      have eg : (g : Int) / 281474976710656 = ((g / 281474976710656 : Nat) : Int) := by omega
      have es : Go.bits .and .u64 ((g : Int) * 16) 4503599627370495 = ((rest 0 (k + 1) : Nat) : Int) := by
        have h1 := and_low (a := g * 16) (by omega) 52 (by omega)
        have e21 : ((2 ^ 52 - 1 : Nat) : Int) = 4503599627370495 := by decide
        have q52 : (2 : Nat) ^ 52 = 4503599627370496 := by decide
        rw [e21, q52, HST.out] at h1
        rw [← h1]
        congr 1
      generalize hg2 : rest 0 (k + 1) = g2 at *
      have HG2 := Aside0.mk hg2
      clear hg2
      generalize hq : g / 281474976710656 = q at *
      have HQ := Aside0.mk hq
      have eq1 : IntKind.i64.wrap (q : Int) = (q : Int) := (i64_w _).trans (w64 (by omega) (by omega))
      have eq2 : IntKind.i64.wrap ((q : Int) + 1) = (q : Int) + 1 := (i64_w _).trans (w64 (by omega) (by omega))
      have ew : IntKind.u64.wrap ((g : Int) * 16) = (g : Int) * 16 := by
        rw [u64w]
        omega
      have hlet := HLE.out
      have hsl : (Instr.slice 9 (.string ⟨#[48, 49, 50, 51, 52, 53, 54, 55, 56, 57, 97, 98, 99, 100, 101, 102]⟩) (some (.int .i64 (q : Int))) (some (.int .i64 ((q : Int) + 1))) none).run Tryd.prog w = .ok (.string ⟨[UInt8.ofNat (hd q)].toArray⟩) w := by
        rw [run_slice_string w 9 _ .i64 .i64 (q : Int) ((q : Int) + 1) Tryd.underlying9 (by omega) (by omega) (by show _ ≤ ((16 : Nat) : Int); omega), ← hlet]
        rfl
      generalize UInt8.ofNat (hd q) = c at *
      generalize hSB : (⟨([45, 48, 120, 49] ++ (h13 0).take k).toArray⟩ : ByteArray) = S at *
      have HSB := Aside0.mk hSB
      have hc1 : ¬ (9223372036854775807 < S.size + 1) := by omega
      have HQ16 := Aside0.mk hd16
      clear hq hdg hSB HGE hr hlt hlet HLE
      go_wp2_with fail
      go_round
      case rel => exact ⟨k + 1, by omega, by rw [HTK.out, ← HSB.out, ba_app], by rw [HG2.out], ⟨.inr HKN.out⟩⟩
      case measure =>
        simp [Lib.strSize_string, ByteArray.size_append', ByteArray.size_mk']
        omega
set_option maxHeartbeats 3200000 in
set_option maxRecDepth 100000 in
theorem text_norm_n (a : Nat) (w : World) (P : Nat) (hP : P < 9218868437227405312 ∧ 0 < P) (E : Nat) (hE : 1 ≤ E ∧ E < 2047) (f : Nat) (hf : 0 < f ∧ f < 4503599627370496) (ds : decide ((9223372036854775808 : Int) ≤ (a : Int)) = true) (eP : Go.bits .andNot .u64 (a : Int) 9223372036854775808 = (P : Int)) (e1 : (P : Int) / 4503599627370496 = (E : Int)) (e2 : Go.bits .and .u64 (P : Int) 4503599627370495 = (f : Int)) (HT : Aside0 (txt a = [45] ++ body E f)) : Calls Tryd.prog 12 #[.int .u64 a] w fun e w' => e = .returned (.string ⟨(txt a).toArray⟩) ∧ Below w.heap.size w w' := by
  have d1 : decide ((9218868437227405312 : Int) < (P : Int)) = false := decide_eq_false (by omega)
  have d2 : decide (9218868437227405312 < P) = false := decide_eq_false (by omega)
  have d3 : ((P : Int) == 9218868437227405312) = false := beq_eq_false_iff_ne.2 (by omega)
  have d4 : ((P : Int) == 0) = false := beq_eq_false_iff_ne.2 (by omega)
  clear hP
  have d5 : ((E : Int) - 1023 == -1023) = false := beq_eq_false_iff_ne.2 (by omega)
  have ec : IntKind.i64.wrap (E : Int) = (E : Int) := (i64_w _).trans (w64 (by omega) (by omega))
  have ec2 : IntKind.i64.wrap ((E : Int) - 1023) = (E : Int) - 1023 := (i64_w _).trans (w64 (by omega) (by omega))
  have HE := Aside0.mk hE
  clear hE
  have d6 : ((f : Int) == 0) = false := beq_eq_false_iff_ne.2 (by omega)
  have HF := Aside0.mk hf
  have HR0 := Aside0.mk (rest_zero f hf.2)
  have HRE : Aside0 (f < 4503599627370496) := ⟨hf.2⟩
  have HR1 := Aside0.mk hf.1
  clear hf
  go_enter Tryd.func12, Tryd.ntmps12
  go_wp2_with fail
  clear d1 d2 d3 d4 d6 e1 e2 eP ds d5 ec
  go_loop [4, 6, 9] (fun ss sf sd => ∃ k : Nat, k ≤ 13 ∧ ss = .string ⟨([45, 48, 120, 49, 46] ++ (h13 f).take k).toArray⟩ ∧ sf = .int .u64 (rest f k : Nat) ∧ Aside0 (k = 0 ∨ rest f (k - 1) ≠ 0)) (fun ss _ _ => 60 - Lib.strSize ss)
  case atStart => exact ⟨0, by omega, by rfl, by rw [HR0.out], ⟨.inl rfl⟩⟩
  case round =>
    obtain ⟨k, hk, rfl, rfl, HK⟩ := hrel
    have hlt := rest_lt f k hk
    have hkl : ((h13 f).take k).length = k := by rw [List.length_take, h13_length]; omega
    have hsz : (⟨([45, 48, 120, 49, 46] ++ (h13 f).take k).toArray⟩ : ByteArray).size = 5 + k := by rw [Lib.size_mk, List.length_append, hkl]; rfl
    by_cases hr : rest f k = 0
    · have HTL := Aside0.mk (told hk hr HK.out)
      rw [hr]
      have HS : Aside0 (⟨([45, 48, 120, 49, 46] ++ (h13 f).take k).toArray⟩ = (⟨([45, 48, 120, 49, 46] ++ (h13 f).take k).toArray⟩ : ByteArray)) := ⟨rfl⟩
      generalize hSB : (⟨([45, 48, 120, 49, 46] ++ (h13 f).take k).toArray⟩ : ByteArray) = S at *
      have HSB := Aside0.mk hSB
      have hc1 : ¬ (9223372036854775807 < S.size + 1) := by omega
      have HSZ : Aside0 (S.size ≤ 20) := ⟨by omega⟩
      clear HS hSB hsz hkl hr hlt
      go_wp2_with fail
      refine (digits_calls ((E : Int) - 1023) (by have := HE.out; omega) (by have := HE.out; omega) _).mono ?_
      rintro e w5 ⟨rfl, hB⟩
      have HB5 := Aside0.mk hB
      have hIL := Lib.itoa_length_le ((E : Int) - 1023) (by have := HE.out; omega) (by have := HE.out; omega)
      have hIZ : (⟨(Lib.itoa ((E : Int) - 1023)).toArray⟩ : ByteArray).size = (Lib.itoa ((E : Int) - 1023)).length := Lib.size_mk _
      generalize hIB : (⟨(Lib.itoa ((E : Int) - 1023)).toArray⟩ : ByteArray) = I at *
      have hc5 : ¬ (9223372036854775807 < S.size + 1 + I.size) := by have := HSZ.out; omega
      have HIB := Aside0.mk hIB
      clear hB hIL hIZ hIB
      go_wp2_with fail
      go_ret
      refine ⟨?_, HB5.out⟩
      rw [← HIB.out, ← HSB.out]
      congr 2
      rw [HT.out, HTL.out]
      unfold body lead expo frac
      rw [if_neg (show ¬ E = 0 by have := HE.out; omega), if_neg (show ¬ E = 0 by have := HE.out; omega), if_neg (show ¬ f = 0 by have := HF.out; omega)]
      simp [ba_app]
    · have hk13 : k < 13 := by
        by_cases h : k < 13
        · exact h
        · obtain rfl : k = 13 := by omega
          exact absurd (rest_full f) hr
      have hdg := rest_digit f k hk13
      have hd16 : rest f k / 281474976710656 < 16 := by omega
      have HST := Aside0.mk (rest_step f k hk13)
      have HLE := Aside0.mk (letter (rest f k / 281474976710656) hd16)
      have HTK : Aside0 ([45, 48, 120, 49, 46] ++ (h13 f).take (k + 1) = [45, 48, 120, 49, 46] ++ (h13 f).take k ++ [UInt8.ofNat (hd (rest f k / 281474976710656))]) := ⟨by
        have hl : k < (h13 f).length := by rw [h13_length]; exact hk13
        rw [List.take_succ_eq_append_getElem hl, h13_get, hdg, List.append_assoc]⟩
      have HKN : Aside0 (rest f (k + 1 - 1) ≠ 0) := ⟨by rw [Nat.add_sub_cancel]; exact hr⟩
      generalize rest f k = g at *
      have HGE : Aside0 (∃ q, g / 281474976710656 = q) := ⟨_, rfl⟩
      have d7 : ((g : Int) == 0) = false := beq_eq_false_iff_ne.2 (by omega)
      have eg : (g : Int) / 281474976710656 = ((g / 281474976710656 : Nat) : Int) := by omega
      have es : Go.bits .and .u64 ((g : Int) * 16) 4503599627370495 = ((rest f (k + 1) : Nat) : Int) := by
        have h1 := and_low (a := g * 16) (by omega) 52 (by omega)
        have e21 : ((2 ^ 52 - 1 : Nat) : Int) = 4503599627370495 := by decide
        have q52 : (2 : Nat) ^ 52 = 4503599627370496 := by decide
        rw [e21, q52, HST.out] at h1
        rw [← h1]
        congr 1
      generalize hg2 : rest f (k + 1) = g2 at *
      have HG2 := Aside0.mk hg2
      clear hg2
      generalize hq : g / 281474976710656 = q at *
      have HQ := Aside0.mk hq
      have eq1 : IntKind.i64.wrap (q : Int) = (q : Int) := (i64_w _).trans (w64 (by omega) (by omega))
      have eq2 : IntKind.i64.wrap ((q : Int) + 1) = (q : Int) + 1 := (i64_w _).trans (w64 (by omega) (by omega))
      have ew : IntKind.u64.wrap ((g : Int) * 16) = (g : Int) * 16 := by
        rw [u64w]
        omega
      have hlet := HLE.out
      have hsl : (Instr.slice 9 (.string ⟨#[48, 49, 50, 51, 52, 53, 54, 55, 56, 57, 97, 98, 99, 100, 101, 102]⟩) (some (.int .i64 (q : Int))) (some (.int .i64 ((q : Int) + 1))) none).run Tryd.prog w = .ok (.string ⟨[UInt8.ofNat (hd q)].toArray⟩) w := by
        rw [run_slice_string w 9 _ .i64 .i64 (q : Int) ((q : Int) + 1) Tryd.underlying9 (by omega) (by omega) (by show _ ≤ ((16 : Nat) : Int); omega), ← hlet]
        rfl
      generalize UInt8.ofNat (hd q) = c at *
      generalize hSB : (⟨([45, 48, 120, 49, 46] ++ (h13 f).take k).toArray⟩ : ByteArray) = S at *
      have HSB := Aside0.mk hSB
      have hc1 : ¬ (9223372036854775807 < S.size + 1) := by omega
      have HQ16 := Aside0.mk hd16
      clear hq hdg hSB HGE hr hlt hlet HLE
      go_wp2_with fail
      go_round
      case rel => exact ⟨k + 1, by omega, by rw [HTK.out, ← HSB.out, ba_app], by rw [HG2.out], ⟨.inr HKN.out⟩⟩
      case measure =>
        simp [Lib.strSize_string, ByteArray.size_append', ByteArray.size_mk']
        omega
set_option maxHeartbeats 3200000 in
set_option maxRecDepth 100000 in
theorem text_inf_p (a : Nat) (w : World) (ds : decide ((9223372036854775808 : Int) ≤ (a : Int)) = false) (eP : Go.bits .andNot .u64 (a : Int) 9223372036854775808 = 9218868437227405312) (HT : Aside0 (txt a = [] ++ [105, 110, 102])) : Calls Tryd.prog 12 #[.int .u64 a] w fun e w' => e = .returned (.string ⟨(txt a).toArray⟩) ∧ Below w.heap.size w w' := by
  go_enter Tryd.func12, Tryd.ntmps12
  go_wp2_with fail
  go_ret
  exact ⟨by rw [HT.out]; rfl, Below.refl _ _⟩
set_option maxHeartbeats 3200000 in
set_option maxRecDepth 100000 in
theorem text_zero_p (a : Nat) (w : World) (ds : decide ((9223372036854775808 : Int) ≤ (a : Int)) = false) (eP : Go.bits .andNot .u64 (a : Int) 9223372036854775808 = 0) (HT : Aside0 (txt a = [] ++ [48])) : Calls Tryd.prog 12 #[.int .u64 a] w fun e w' => e = .returned (.string ⟨(txt a).toArray⟩) ∧ Below w.heap.size w w' := by
  go_enter Tryd.func12, Tryd.ntmps12
  go_wp2_with fail
  go_ret
  exact ⟨by rw [HT.out]; rfl, Below.refl _ _⟩
set_option maxHeartbeats 3200000 in
set_option maxRecDepth 100000 in
theorem text_nan_p (a : Nat) (w : World) (P : Nat) (hP : 9218868437227405312 < P) (ds : decide ((9223372036854775808 : Int) ≤ (a : Int)) = false) (eP : Go.bits .andNot .u64 (a : Int) 9223372036854775808 = (P : Int)) (HT : Aside0 (txt a = [110, 97, 110])) : Calls Tryd.prog 12 #[.int .u64 a] w fun e w' => e = .returned (.string ⟨(txt a).toArray⟩) ∧ Below w.heap.size w w' := by
  have d1 : decide ((9218868437227405312 : Int) < (P : Int)) = true := decide_eq_true (by omega)
  have d2 : decide (9218868437227405312 < P) = true := decide_eq_true hP
  clear hP
  go_enter Tryd.func12, Tryd.ntmps12
  go_wp2_with fail
  go_ret
  exact ⟨by rw [HT.out]; rfl, Below.refl _ _⟩
set_option maxHeartbeats 3200000 in
set_option maxRecDepth 100000 in
theorem text_sub_p (a : Nat) (w : World) (P : Nat) (hP : P < 9218868437227405312 ∧ 0 < P) (f : Nat) (hf : 0 < f ∧ f < 4503599627370496) (ds : decide ((9223372036854775808 : Int) ≤ (a : Int)) = false) (eP : Go.bits .andNot .u64 (a : Int) 9223372036854775808 = (P : Int)) (e1 : (P : Int) / 4503599627370496 = 0) (e2 : Go.bits .and .u64 (P : Int) 4503599627370495 = (f : Int)) (HT : Aside0 (txt a = [] ++ body 0 f)) : Calls Tryd.prog 12 #[.int .u64 a] w fun e w' => e = .returned (.string ⟨(txt a).toArray⟩) ∧ Below w.heap.size w w' := by
  have d1 : decide ((9218868437227405312 : Int) < (P : Int)) = false := decide_eq_false (by omega)
  have d2 : decide (9218868437227405312 < P) = false := decide_eq_false (by omega)
  have d3 : ((P : Int) == 9218868437227405312) = false := beq_eq_false_iff_ne.2 (by omega)
  have d4 : ((P : Int) == 0) = false := beq_eq_false_iff_ne.2 (by omega)
  clear hP
  have d6 : ((f : Int) == 0) = false := beq_eq_false_iff_ne.2 (by omega)
  have HF := Aside0.mk hf
  have HR0 := Aside0.mk (rest_zero f hf.2)
  have HRE : Aside0 (f < 4503599627370496) := ⟨hf.2⟩
  have HR1 := Aside0.mk hf.1
  clear hf
  go_enter Tryd.func12, Tryd.ntmps12
  go_wp2_with fail
  clear d1 d2 d3 d4 d6 e1 e2 eP ds
  go_loop [4, 6, 9] (fun ss sf sd => ∃ k : Nat, k ≤ 13 ∧ ss = .string ⟨([48, 120, 48, 46] ++ (h13 f).take k).toArray⟩ ∧ sf = .int .u64 (rest f k : Nat) ∧ Aside0 (k = 0 ∨ rest f (k - 1) ≠ 0)) (fun ss _ _ => 60 - Lib.strSize ss)
  case atStart => exact ⟨0, by omega, by rfl, by rw [HR0.out], ⟨.inl rfl⟩⟩
  case round =>
    obtain ⟨k, hk, rfl, rfl, HK⟩ := hrel
    have hlt := rest_lt f k hk
    have hkl : ((h13 f).take k).length = k := by rw [List.length_take, h13_length]; omega
    have hsz : (⟨([48, 120, 48, 46] ++ (h13 f).take k).toArray⟩ : ByteArray).size = 4 + k := by rw [Lib.size_mk, List.length_append, hkl]; rfl
    by_cases hr : rest f k = 0
    · have HTL := Aside0.mk (told hk hr HK.out)
      rw [hr]
      have HS : Aside0 (⟨([48, 120, 48, 46] ++ (h13 f).take k).toArray⟩ = (⟨([48, 120, 48, 46] ++ (h13 f).take k).toArray⟩ : ByteArray)) := ⟨rfl⟩
      generalize hSB : (⟨([48, 120, 48, 46] ++ (h13 f).take k).toArray⟩ : ByteArray) = S at *
      have HSB := Aside0.mk hSB
      have hc1 : ¬ (9223372036854775807 < S.size + 1) := by omega
      have HSZ : Aside0 (S.size ≤ 20) := ⟨by omega⟩
      clear HS hSB hsz hkl hr hlt
      go_wp2_with fail
      refine (digits_calls (-1022) (by omega) (by omega) _).mono ?_
      rintro e w5 ⟨rfl, hB⟩
      have HB5 := Aside0.mk hB
      have hIL := Lib.itoa_length_le (-1022) (by omega) (by omega)
      have hIZ : (⟨(Lib.itoa (-1022)).toArray⟩ : ByteArray).size = (Lib.itoa (-1022)).length := Lib.size_mk _
      generalize hIB : (⟨(Lib.itoa (-1022)).toArray⟩ : ByteArray) = I at *
      have hc5 : ¬ (9223372036854775807 < S.size + 1 + I.size) := by have := HSZ.out; omega
      have HIB := Aside0.mk hIB
      clear hB hIL hIZ hIB
      go_wp2_with fail
      go_ret
      refine ⟨?_, HB5.out⟩
      rw [← HIB.out, ← HSB.out]
      congr 2
      rw [HT.out, HTL.out]
      unfold body lead expo frac
      rw [if_pos rfl, if_pos rfl, if_neg (show ¬ f = 0 by have := HF.out; omega)]
      simp [ba_app]
    · have hk13 : k < 13 := by
        by_cases h : k < 13
        · exact h
        · obtain rfl : k = 13 := by omega
          exact absurd (rest_full f) hr
      have hdg := rest_digit f k hk13
      have hd16 : rest f k / 281474976710656 < 16 := by omega
      have HST := Aside0.mk (rest_step f k hk13)
      have HLE := Aside0.mk (letter (rest f k / 281474976710656) hd16)
      have HTK : Aside0 ([48, 120, 48, 46] ++ (h13 f).take (k + 1) = [48, 120, 48, 46] ++ (h13 f).take k ++ [UInt8.ofNat (hd (rest f k / 281474976710656))]) := ⟨by
        have hl : k < (h13 f).length := by rw [h13_length]; exact hk13
        rw [List.take_succ_eq_append_getElem hl, h13_get, hdg, List.append_assoc]⟩
      have HKN : Aside0 (rest f (k + 1 - 1) ≠ 0) := ⟨by rw [Nat.add_sub_cancel]; exact hr⟩
      generalize rest f k = g at *
      have HGE : Aside0 (∃ q, g / 281474976710656 = q) := ⟨_, rfl⟩
      have d7 : ((g : Int) == 0) = false := beq_eq_false_iff_ne.2 (by omega)
      have eg : (g : Int) / 281474976710656 = ((g / 281474976710656 : Nat) : Int) := by omega
      have es : Go.bits .and .u64 ((g : Int) * 16) 4503599627370495 = ((rest f (k + 1) : Nat) : Int) := by
        have h1 := and_low (a := g * 16) (by omega) 52 (by omega)
        have e21 : ((2 ^ 52 - 1 : Nat) : Int) = 4503599627370495 := by decide
        have q52 : (2 : Nat) ^ 52 = 4503599627370496 := by decide
        rw [e21, q52, HST.out] at h1
        rw [← h1]
        congr 1
      generalize hg2 : rest f (k + 1) = g2 at *
      have HG2 := Aside0.mk hg2
      clear hg2
      generalize hq : g / 281474976710656 = q at *
      have HQ := Aside0.mk hq
      have eq1 : IntKind.i64.wrap (q : Int) = (q : Int) := (i64_w _).trans (w64 (by omega) (by omega))
      have eq2 : IntKind.i64.wrap ((q : Int) + 1) = (q : Int) + 1 := (i64_w _).trans (w64 (by omega) (by omega))
      have ew : IntKind.u64.wrap ((g : Int) * 16) = (g : Int) * 16 := by
        rw [u64w]
        omega
      have hlet := HLE.out
      have hsl : (Instr.slice 9 (.string ⟨#[48, 49, 50, 51, 52, 53, 54, 55, 56, 57, 97, 98, 99, 100, 101, 102]⟩) (some (.int .i64 (q : Int))) (some (.int .i64 ((q : Int) + 1))) none).run Tryd.prog w = .ok (.string ⟨[UInt8.ofNat (hd q)].toArray⟩) w := by
        rw [run_slice_string w 9 _ .i64 .i64 (q : Int) ((q : Int) + 1) Tryd.underlying9 (by omega) (by omega) (by show _ ≤ ((16 : Nat) : Int); omega), ← hlet]
        rfl
      generalize UInt8.ofNat (hd q) = c at *
      generalize hSB : (⟨([48, 120, 48, 46] ++ (h13 f).take k).toArray⟩ : ByteArray) = S at *
      have HSB := Aside0.mk hSB
      have hc1 : ¬ (9223372036854775807 < S.size + 1) := by omega
      have HQ16 := Aside0.mk hd16
      clear hq hdg hSB HGE hr hlt hlet HLE
      go_wp2_with fail
      go_round
      case rel => exact ⟨k + 1, by omega, by rw [HTK.out, ← HSB.out, ba_app], by rw [HG2.out], ⟨.inr HKN.out⟩⟩
      case measure =>
        simp [Lib.strSize_string, ByteArray.size_append', ByteArray.size_mk']
        omega
set_option maxHeartbeats 3200000 in
set_option maxRecDepth 100000 in
theorem text_whole_p (a : Nat) (w : World) (P : Nat) (hP : P < 9218868437227405312 ∧ 0 < P) (E : Nat) (hE : 1 ≤ E ∧ E < 2047) (ds : decide ((9223372036854775808 : Int) ≤ (a : Int)) = false) (eP : Go.bits .andNot .u64 (a : Int) 9223372036854775808 = (P : Int)) (e1 : (P : Int) / 4503599627370496 = (E : Int)) (e2 : Go.bits .and .u64 (P : Int) 4503599627370495 = 0) (HT : Aside0 (txt a = [] ++ body E 0)) : Calls Tryd.prog 12 #[.int .u64 a] w fun e w' => e = .returned (.string ⟨(txt a).toArray⟩) ∧ Below w.heap.size w w' := by
  have d1 : decide ((9218868437227405312 : Int) < (P : Int)) = false := decide_eq_false (by omega)
  have d2 : decide (9218868437227405312 < P) = false := decide_eq_false (by omega)
  have d3 : ((P : Int) == 9218868437227405312) = false := beq_eq_false_iff_ne.2 (by omega)
  have d4 : ((P : Int) == 0) = false := beq_eq_false_iff_ne.2 (by omega)
  clear hP
  have d5 : ((E : Int) - 1023 == -1023) = false := beq_eq_false_iff_ne.2 (by omega)
  have ec : IntKind.i64.wrap (E : Int) = (E : Int) := (i64_w _).trans (w64 (by omega) (by omega))
  have ec2 : IntKind.i64.wrap ((E : Int) - 1023) = (E : Int) - 1023 := (i64_w _).trans (w64 (by omega) (by omega))
  have HE := Aside0.mk hE
  clear hE
  go_enter Tryd.func12, Tryd.ntmps12
  go_wp2_with fail
  go_loop [4, 6, 9] (fun ss sf sd => ∃ k : Nat, k ≤ 13 ∧ ss = .string ⟨([48, 120, 49] ++ (h13 0).take k).toArray⟩ ∧ sf = .int .u64 (rest 0 k : Nat) ∧ Aside0 (k = 0 ∨ rest 0 (k - 1) ≠ 0)) (fun ss _ _ => 60 - Lib.strSize ss)
  case atStart => exact ⟨0, by omega, by rfl, by rfl, ⟨.inl rfl⟩⟩
  case round =>
    obtain ⟨k, hk, rfl, rfl, HK⟩ := hrel
    have hlt := rest_lt 0 k hk
    have hkl : ((h13 0).take k).length = k := by rw [List.length_take, h13_length]; omega
    have hsz : (⟨([48, 120, 49] ++ (h13 0).take k).toArray⟩ : ByteArray).size = 3 + k := by rw [Lib.size_mk, List.length_append, hkl]; rfl
    by_cases hr : rest 0 k = 0
    · have HTL := Aside0.mk (told hk hr HK.out)
      rw [hr]
      have HS : Aside0 (⟨([48, 120, 49] ++ (h13 0).take k).toArray⟩ = (⟨([48, 120, 49] ++ (h13 0).take k).toArray⟩ : ByteArray)) := ⟨rfl⟩
      generalize hSB : (⟨([48, 120, 49] ++ (h13 0).take k).toArray⟩ : ByteArray) = S at *
      have HSB := Aside0.mk hSB
      have hc1 : ¬ (9223372036854775807 < S.size + 1) := by omega
      have HSZ : Aside0 (S.size ≤ 20) := ⟨by omega⟩
      clear HS hSB hsz hkl hr hlt
      go_wp2_with fail
      refine (digits_calls ((E : Int) - 1023) (by have := HE.out; omega) (by have := HE.out; omega) _).mono ?_
      rintro e w5 ⟨rfl, hB⟩
      have HB5 := Aside0.mk hB
      have hIL := Lib.itoa_length_le ((E : Int) - 1023) (by have := HE.out; omega) (by have := HE.out; omega)
      have hIZ : (⟨(Lib.itoa ((E : Int) - 1023)).toArray⟩ : ByteArray).size = (Lib.itoa ((E : Int) - 1023)).length := Lib.size_mk _
      generalize hIB : (⟨(Lib.itoa ((E : Int) - 1023)).toArray⟩ : ByteArray) = I at *
      have hc5 : ¬ (9223372036854775807 < S.size + 1 + I.size) := by have := HSZ.out; omega
      have HIB := Aside0.mk hIB
      clear hB hIL hIZ hIB
      go_wp2_with fail
      go_ret
      refine ⟨?_, HB5.out⟩
      rw [← HIB.out, ← HSB.out]
      congr 2
      rw [HT.out, HTL.out]
      unfold body lead expo frac
      rw [if_neg (show ¬ E = 0 by have := HE.out; omega), if_neg (show ¬ E = 0 by have := HE.out; omega), if_pos rfl]
      rw [show Lib.trimRightB (h13 0) 48 = [] by decide]
      simp [ba_app]
    · have hk13 : k < 13 := by
        by_cases h : k < 13
        · exact h
        · obtain rfl : k = 13 := by omega
          exact absurd (rest_full 0) hr
      have hdg := rest_digit 0 k hk13
      have hd16 : rest 0 k / 281474976710656 < 16 := by omega
      have HST := Aside0.mk (rest_step 0 k hk13)
      have HLE := Aside0.mk (letter (rest 0 k / 281474976710656) hd16)
      have HTK : Aside0 ([48, 120, 49] ++ (h13 0).take (k + 1) = [48, 120, 49] ++ (h13 0).take k ++ [UInt8.ofNat (hd (rest 0 k / 281474976710656))]) := ⟨by
        have hl : k < (h13 0).length := by rw [h13_length]; exact hk13
        rw [List.take_succ_eq_append_getElem hl, h13_get, hdg, List.append_assoc]⟩
      have HKN : Aside0 (rest 0 (k + 1 - 1) ≠ 0) := ⟨by rw [Nat.add_sub_cancel]; exact hr⟩
      generalize rest 0 k = g at *
      have HGE : Aside0 (∃ q, g / 281474976710656 = q) := ⟨_, rfl⟩
      have d7 : ((g : Int) == 0) = false := beq_eq_false_iff_ne.2 (by omega)
      have eg : (g : Int) / 281474976710656 = ((g / 281474976710656 : Nat) : Int) := by omega
      have es : Go.bits .and .u64 ((g : Int) * 16) 4503599627370495 = ((rest 0 (k + 1) : Nat) : Int) := by
        have h1 := and_low (a := g * 16) (by omega) 52 (by omega)
        have e21 : ((2 ^ 52 - 1 : Nat) : Int) = 4503599627370495 := by decide
        have q52 : (2 : Nat) ^ 52 = 4503599627370496 := by decide
        rw [e21, q52, HST.out] at h1
        rw [← h1]
        congr 1
      generalize hg2 : rest 0 (k + 1) = g2 at *
      have HG2 := Aside0.mk hg2
      clear hg2
      generalize hq : g / 281474976710656 = q at *
      have HQ := Aside0.mk hq
      have eq1 : IntKind.i64.wrap (q : Int) = (q : Int) := (i64_w _).trans (w64 (by omega) (by omega))
      have eq2 : IntKind.i64.wrap ((q : Int) + 1) = (q : Int) + 1 := (i64_w _).trans (w64 (by omega) (by omega))
      have ew : IntKind.u64.wrap ((g : Int) * 16) = (g : Int) * 16 := by
        rw [u64w]
        omega
      have hlet := HLE.out
      have hsl : (Instr.slice 9 (.string ⟨#[48, 49, 50, 51, 52, 53, 54, 55, 56, 57, 97, 98, 99, 100, 101, 102]⟩) (some (.int .i64 (q : Int))) (some (.int .i64 ((q : Int) + 1))) none).run Tryd.prog w = .ok (.string ⟨[UInt8.ofNat (hd q)].toArray⟩) w := by
        rw [run_slice_string w 9 _ .i64 .i64 (q : Int) ((q : Int) + 1) Tryd.underlying9 (by omega) (by omega) (by show _ ≤ ((16 : Nat) : Int); omega), ← hlet]
        rfl
      generalize UInt8.ofNat (hd q) = c at *
      generalize hSB : (⟨([48, 120, 49] ++ (h13 0).take k).toArray⟩ : ByteArray) = S at *
      have HSB := Aside0.mk hSB
      have hc1 : ¬ (9223372036854775807 < S.size + 1) := by omega
      have HQ16 := Aside0.mk hd16
      clear hq hdg hSB HGE hr hlt hlet HLE
      go_wp2_with fail
      go_round
      case rel => exact ⟨k + 1, by omega, by rw [HTK.out, ← HSB.out, ba_app], by rw [HG2.out], ⟨.inr HKN.out⟩⟩
      case measure =>
        simp [Lib.strSize_string, ByteArray.size_append', ByteArray.size_mk']
        omega
set_option maxHeartbeats 3200000 in
set_option maxRecDepth 100000 in
theorem text_norm_p (a : Nat) (w : World) (P : Nat) (hP : P < 9218868437227405312 ∧ 0 < P) (E : Nat) (hE : 1 ≤ E ∧ E < 2047) (f : Nat) (hf : 0 < f ∧ f < 4503599627370496) (ds : decide ((9223372036854775808 : Int) ≤ (a : Int)) = false) (eP : Go.bits .andNot .u64 (a : Int) 9223372036854775808 = (P : Int)) (e1 : (P : Int) / 4503599627370496 = (E : Int)) (e2 : Go.bits .and .u64 (P : Int) 4503599627370495 = (f : Int)) (HT : Aside0 (txt a = [] ++ body E f)) : Calls Tryd.prog 12 #[.int .u64 a] w fun e w' => e = .returned (.string ⟨(txt a).toArray⟩) ∧ Below w.heap.size w w' := by
  have d1 : decide ((9218868437227405312 : Int) < (P : Int)) = false := decide_eq_false (by omega)
  have d2 : decide (9218868437227405312 < P) = false := decide_eq_false (by omega)
  have d3 : ((P : Int) == 9218868437227405312) = false := beq_eq_false_iff_ne.2 (by omega)
  have d4 : ((P : Int) == 0) = false := beq_eq_false_iff_ne.2 (by omega)
  clear hP
  have d5 : ((E : Int) - 1023 == -1023) = false := beq_eq_false_iff_ne.2 (by omega)
  have ec : IntKind.i64.wrap (E : Int) = (E : Int) := (i64_w _).trans (w64 (by omega) (by omega))
  have ec2 : IntKind.i64.wrap ((E : Int) - 1023) = (E : Int) - 1023 := (i64_w _).trans (w64 (by omega) (by omega))
  have HE := Aside0.mk hE
  clear hE
  have d6 : ((f : Int) == 0) = false := beq_eq_false_iff_ne.2 (by omega)
  have HF := Aside0.mk hf
  have HR0 := Aside0.mk (rest_zero f hf.2)
  have HRE : Aside0 (f < 4503599627370496) := ⟨hf.2⟩
  have HR1 := Aside0.mk hf.1
  clear hf
  go_enter Tryd.func12, Tryd.ntmps12
  go_wp2_with fail
  clear d1 d2 d3 d4 d6 e1 e2 eP ds d5 ec
  go_loop [4, 6, 9] (fun ss sf sd => ∃ k : Nat, k ≤ 13 ∧ ss = .string ⟨([48, 120, 49, 46] ++ (h13 f).take k).toArray⟩ ∧ sf = .int .u64 (rest f k : Nat) ∧ Aside0 (k = 0 ∨ rest f (k - 1) ≠ 0)) (fun ss _ _ => 60 - Lib.strSize ss)
  case atStart => exact ⟨0, by omega, by rfl, by rw [HR0.out], ⟨.inl rfl⟩⟩
  case round =>
    obtain ⟨k, hk, rfl, rfl, HK⟩ := hrel
    have hlt := rest_lt f k hk
    have hkl : ((h13 f).take k).length = k := by rw [List.length_take, h13_length]; omega
    have hsz : (⟨([48, 120, 49, 46] ++ (h13 f).take k).toArray⟩ : ByteArray).size = 4 + k := by rw [Lib.size_mk, List.length_append, hkl]; rfl
    by_cases hr : rest f k = 0
    · have HTL := Aside0.mk (told hk hr HK.out)
      rw [hr]
      have HS : Aside0 (⟨([48, 120, 49, 46] ++ (h13 f).take k).toArray⟩ = (⟨([48, 120, 49, 46] ++ (h13 f).take k).toArray⟩ : ByteArray)) := ⟨rfl⟩
      generalize hSB : (⟨([48, 120, 49, 46] ++ (h13 f).take k).toArray⟩ : ByteArray) = S at *
      have HSB := Aside0.mk hSB
      have hc1 : ¬ (9223372036854775807 < S.size + 1) := by omega
      have HSZ : Aside0 (S.size ≤ 20) := ⟨by omega⟩
      clear HS hSB hsz hkl hr hlt
      go_wp2_with fail
      refine (digits_calls ((E : Int) - 1023) (by have := HE.out; omega) (by have := HE.out; omega) _).mono ?_
      rintro e w5 ⟨rfl, hB⟩
      have HB5 := Aside0.mk hB
      have hIL := Lib.itoa_length_le ((E : Int) - 1023) (by have := HE.out; omega) (by have := HE.out; omega)
      have hIZ : (⟨(Lib.itoa ((E : Int) - 1023)).toArray⟩ : ByteArray).size = (Lib.itoa ((E : Int) - 1023)).length := Lib.size_mk _
      generalize hIB : (⟨(Lib.itoa ((E : Int) - 1023)).toArray⟩ : ByteArray) = I at *
      have hc5 : ¬ (9223372036854775807 < S.size + 1 + I.size) := by have := HSZ.out; omega
      have HIB := Aside0.mk hIB
      clear hB hIL hIZ hIB
      go_wp2_with fail
      go_ret
      refine ⟨?_, HB5.out⟩
      rw [← HIB.out, ← HSB.out]
      congr 2
      rw [HT.out, HTL.out]
      unfold body lead expo frac
      rw [if_neg (show ¬ E = 0 by have := HE.out; omega), if_neg (show ¬ E = 0 by have := HE.out; omega), if_neg (show ¬ f = 0 by have := HF.out; omega)]
      simp [ba_app]
    · have hk13 : k < 13 := by
        by_cases h : k < 13
        · exact h
        · obtain rfl : k = 13 := by omega
          exact absurd (rest_full f) hr
      have hdg := rest_digit f k hk13
      have hd16 : rest f k / 281474976710656 < 16 := by omega
      have HST := Aside0.mk (rest_step f k hk13)
      have HLE := Aside0.mk (letter (rest f k / 281474976710656) hd16)
      have HTK : Aside0 ([48, 120, 49, 46] ++ (h13 f).take (k + 1) = [48, 120, 49, 46] ++ (h13 f).take k ++ [UInt8.ofNat (hd (rest f k / 281474976710656))]) := ⟨by
        have hl : k < (h13 f).length := by rw [h13_length]; exact hk13
        rw [List.take_succ_eq_append_getElem hl, h13_get, hdg, List.append_assoc]⟩
      have HKN : Aside0 (rest f (k + 1 - 1) ≠ 0) := ⟨by rw [Nat.add_sub_cancel]; exact hr⟩
      generalize rest f k = g at *
      have HGE : Aside0 (∃ q, g / 281474976710656 = q) := ⟨_, rfl⟩
      have d7 : ((g : Int) == 0) = false := beq_eq_false_iff_ne.2 (by omega)
      have eg : (g : Int) / 281474976710656 = ((g / 281474976710656 : Nat) : Int) := by omega
      have es : Go.bits .and .u64 ((g : Int) * 16) 4503599627370495 = ((rest f (k + 1) : Nat) : Int) := by
        have h1 := and_low (a := g * 16) (by omega) 52 (by omega)
        have e21 : ((2 ^ 52 - 1 : Nat) : Int) = 4503599627370495 := by decide
        have q52 : (2 : Nat) ^ 52 = 4503599627370496 := by decide
        rw [e21, q52, HST.out] at h1
        rw [← h1]
        congr 1
      generalize hg2 : rest f (k + 1) = g2 at *
      have HG2 := Aside0.mk hg2
      clear hg2
      generalize hq : g / 281474976710656 = q at *
      have HQ := Aside0.mk hq
      have eq1 : IntKind.i64.wrap (q : Int) = (q : Int) := (i64_w _).trans (w64 (by omega) (by omega))
      have eq2 : IntKind.i64.wrap ((q : Int) + 1) = (q : Int) + 1 := (i64_w _).trans (w64 (by omega) (by omega))
      have ew : IntKind.u64.wrap ((g : Int) * 16) = (g : Int) * 16 := by
        rw [u64w]
        omega
      have hlet := HLE.out
      have hsl : (Instr.slice 9 (.string ⟨#[48, 49, 50, 51, 52, 53, 54, 55, 56, 57, 97, 98, 99, 100, 101, 102]⟩) (some (.int .i64 (q : Int))) (some (.int .i64 ((q : Int) + 1))) none).run Tryd.prog w = .ok (.string ⟨[UInt8.ofNat (hd q)].toArray⟩) w := by
        rw [run_slice_string w 9 _ .i64 .i64 (q : Int) ((q : Int) + 1) Tryd.underlying9 (by omega) (by omega) (by show _ ≤ ((16 : Nat) : Int); omega), ← hlet]
        rfl
      generalize UInt8.ofNat (hd q) = c at *
      generalize hSB : (⟨([48, 120, 49, 46] ++ (h13 f).take k).toArray⟩ : ByteArray) = S at *
      have HSB := Aside0.mk hSB
      have hc1 : ¬ (9223372036854775807 < S.size + 1) := by omega
      have HQ16 := Aside0.mk hd16
      clear hq hdg hSB HGE hr hlt hlet HLE
      go_wp2_with fail
      go_round
      case rel => exact ⟨k + 1, by omega, by rw [HTK.out, ← HSB.out, ba_app], by rw [HG2.out], ⟨.inr HKN.out⟩⟩
      case measure =>
        simp [Lib.strSize_string, ByteArray.size_append', ByteArray.size_mk']
        omega
theorem text_calls (a : Nat) (h : a < 18446744073709551616) (w : World) : Calls Tryd.prog 12 #[.int .u64 a] w fun e w' => e = .returned (.string ⟨(txt a).toArray⟩) ∧ Below w.heap.size w w' := by
  have eP := andNot_rg h
  have e2 := and_low (a := rg a) (by unfold rg; omega) 52 (by omega)
  have e21 : ((2 ^ 52 - 1 : Nat) : Int) = 4503599627370495 := by decide
  have q52 : (2 : Nat) ^ 52 = 4503599627370496 := by decide
  rw [e21, q52] at e2
  have hP : rg a < 9223372036854775808 := by unfold rg; omega
  have ht0 : txt a = if 9218868437227405312 < rg a then [110, 97, 110] else (if 9223372036854775808 ≤ a then [45] else []) ++ DTxt.mag (rg a) := rfl
  generalize rg a = P at *
  obtain ⟨E, hE⟩ : ∃ E, P / 4503599627370496 = E := ⟨_, rfl⟩
  obtain ⟨f, hf⟩ : ∃ f, P % 4503599627370496 = f := ⟨_, rfl⟩
  have e1 : (P : Int) / 4503599627370496 = (E : Int) := by omega
  rw [hf] at e2
  have hb : P ≠ 9218868437227405312 → P ≠ 0 → DTxt.mag P = body E f := fun h1 h2 => by
    unfold DTxt.mag
    rw [if_neg h1, if_neg h2, hE, hf]
  by_cases hs : 9223372036854775808 ≤ a
  · have ds : decide ((9223372036854775808 : Int) ≤ (a : Int)) = true := decide_eq_true (by omega)
    rw [if_pos hs] at ht0
    by_cases hn : 9218868437227405312 < P
    · rw [if_pos hn] at ht0
      exact text_nan_n a w P hn ds eP ⟨ht0⟩
    · rw [if_neg hn] at ht0
      by_cases hi : P = 9218868437227405312
      · subst hi
        exact text_inf_n a w ds eP ⟨ht0⟩
      · by_cases hz : P = 0
        · subst hz
          exact text_zero_n a w ds eP ⟨ht0⟩
        · rw [hb hi hz] at ht0
          by_cases h0 : E = 0
          · subst h0
            exact text_sub_n a w P (by omega) f (by omega) ds eP e1 e2 ⟨ht0⟩
          · by_cases hf0 : f = 0
            · subst hf0
              exact text_whole_n a w P (by omega) E (by omega) ds eP e1 e2 ⟨ht0⟩
            · exact text_norm_n a w P (by omega) E (by omega) f (by omega) ds eP e1 e2 ⟨ht0⟩
  · have ds : decide ((9223372036854775808 : Int) ≤ (a : Int)) = false := decide_eq_false (by omega)
    rw [if_neg hs] at ht0
    by_cases hn : 9218868437227405312 < P
    · rw [if_pos hn] at ht0
      exact text_nan_p a w P hn ds eP ⟨ht0⟩
    · rw [if_neg hn] at ht0
      by_cases hi : P = 9218868437227405312
      · subst hi
        exact text_inf_p a w ds eP ⟨ht0⟩
      · by_cases hz : P = 0
        · subst hz
          exact text_zero_p a w ds eP ⟨ht0⟩
        · rw [hb hi hz] at ht0
          by_cases h0 : E = 0
          · subst h0
            exact text_sub_p a w P (by omega) f (by omega) ds eP e1 e2 ⟨ht0⟩
          · by_cases hf0 : f = 0
            · subst hf0
              exact text_whole_p a w P (by omega) E (by omega) ds eP e1 e2 ⟨ht0⟩
            · exact text_norm_p a w P (by omega) E (by omega) f (by omega) ds eP e1 e2 ⟨ht0⟩
end Go.Proofs.YtjaeligjcgjamaaDoor.DRefText
