/- Hexadecimal digits as a number: what ParseUint at base 16 comes to, where all are digits. -/
import Derived.Test.YtjaeligjcgjamaaDoorDHex
namespace Go.Proofs.YtjaeligjcgjamaaDoor.DUnhex
open Go.RowKit Go.Proofs.YtjaeligjcgjamaaDoor.PRealOrder Go.Proofs.YtjaeligjcgjamaaDoorW.PrintWords Go.Proofs.YtjaeligjcgjamaaDoorW.PrintLast Go.Proofs.YtjaeligjcgjamaaDoorW.PrintMore Go.Proofs.YtjaeligjcgjamaaDoor.Aid Go.Proofs.YtjaeligjcgjamaaDoor.DRealPure Go.Proofs.YtjaeligjcgjamaaDoor.DHex
set_option linter.unusedVariables false
set_option linter.unusedSimpArgs false
/-- A letter's value; 99: it is no digit. -/
def hexv (c : Nat) : Nat := if 48 ≤ c ∧ c ≤ 57 then c - 48 else if 97 ≤ c ∧ c ≤ 102 then c - 87 else if 65 ≤ c ∧ c ≤ 70 then c - 55 else 99
def hval (l : List UInt8) : Nat := l.foldl (fun a c => a * 16 + hexv c.toNat) 0
theorem hval_snoc (l : List UInt8) (c : UInt8) : hval (l ++ [c]) = hval l * 16 + hexv c.toNat := by
  unfold hval
  rw [List.foldl_append]
  rfl
theorem hval_lt : ∀ (n : Nat) (l : List UInt8), l.length = n → (∀ c ∈ l, hexv c.toNat < 16) → hval l < 16 ^ n
  | 0, l, h, _ => by
    have : l = [] := List.length_eq_zero_iff.1 h
    subst this
    decide
  | n + 1, l, h, hx => by
    have hne : l ≠ [] := by
      intro e
      rw [e] at h
      simp at h
    have e := List.dropLast_concat_getLast hne
    rw [← e, hval_snoc]
    have h1 := hval_lt n l.dropLast (by rw [List.length_dropLast, h]; rfl) (fun c hc => hx c (List.dropLast_subset _ hc))
    have h2 := hx _ (List.getLast_mem hne)
    rw [Nat.pow_succ]
    omega
theorem hval_step (l : List UInt8) (k : Nat) (h : k < l.length) : hval (l.take (k + 1)) = hval (l.take k) * 16 + hexv l[k].toNat := by
  rw [List.take_succ_eq_append_getElem h, hval_snoc]
theorem or_low (c : Nat) (h : 97 ≤ c ∧ c ≤ 102) : Go.bits .or .u8 (c : Int) 32 = (c : Int) := by
  have : c = 97 ∨ c = 98 ∨ c = 99 ∨ c = 100 ∨ c = 101 ∨ c = 102 := by omega
  rcases this with rfl | rfl | rfl | rfl | rfl | rfl <;> decide
theorem or_up (c : Nat) (h : 65 ≤ c ∧ c ≤ 70) : Go.bits .or .u8 (c : Int) 32 = (c : Int) + 32 := by
  have : c = 65 ∨ c = 66 ∨ c = 67 ∨ c = 68 ∨ c = 69 ∨ c = 70 := by omega
  rcases this with rfl | rfl | rfl | rfl | rfl | rfl <;> decide
theorem not_empty {s : ByteArray} (h : 0 < s.size) : s.toList.isEmpty = false := by
  rw [Lib.toList_data]
  cases e : s.data.toList with
  | nil =>
    have h2 : s.size = s.data.toList.length := Lib.size_eq s
    rw [e] at h2
    rw [h2] at h
    exact absurd h (by decide)
  | cons a b => rfl
set_option maxHeartbeats 3200000 in
set_option maxRecDepth 100000 in
theorem parse_calls (s : ByteArray) (h0 : 0 < s.size) (h1 : s.size ≤ 15) (hx : ∀ c ∈ s.data.toList, hexv c.toNat < 16) (w : World) :
    Calls Tryd.prog 58 #[.string s, .int .i64 16, .int .i64 64] w fun e w' => e = .returned (.tuple #[.int .u64 (hval s.data.toList : Nat), .nilIface]) ∧ Below w.heap.size w w' := by
  have he := not_empty h0
  have hcv := Lib.run_convert_string_bytes w 9 69 5 s Tryd.underlying9 Tryd.underlying69 Tryd.underlying5
  have HB : Aside0 (Below w.heap.size w (Lib.bytesWorld w 5 s)) := ⟨Lib.bytesWorld_below w 5 s⟩
  have HC : Aside0 (∀ j, j < s.size → (Lib.bytesWorld w 5 s).cell? ⟨w.heap.size, j, none⟩ = some (.int .u8 (s.data.toList.getD j 0).toNat)) := ⟨fun j hj => Lib.bytesWorld_cell w 5 s j hj⟩
  have HX := Aside0.mk hx
  have HS : Aside0 (s.size = s.data.toList.length) := ⟨Lib.size_eq s⟩
  have eW : IntKind.u64.wrap (IntKind.u64.wrap 18446744073709551616 - 1) = 18446744073709551615 := by decide
  clear hx
  go_enter Tryd.func58, Tryd.ntmps58
  go_wp2_with fail
  clear eW hcv he
  generalize Lib.bytesWorld w 5 s = w1 at *
  generalize grownCap w s.size 0 5 = cp at *
  generalize hl : s.data.toList = l at *
  have HL := Aside0.mk hl
  clear hl
  go_loop [12, 13, 101] (fun su sn si => ∃ k n : Nat, k ≤ s.size ∧ su = .bool false ∧ sn = .int .u64 n ∧ si = .int .i64 k ∧ Aside0 (n = hval (l.take k)) ∧ n < 1152921504606846976) (fun _ _ si => s.size - (intOf si).toNat)
  case atStart => exact ⟨0, 0, by omega, rfl, rfl, rfl, ⟨rfl⟩, by omega⟩
  case round =>
    obtain ⟨k, n, hk, rfl, rfl, rfl, HN, hn⟩ := hrel
    by_cases hlt : k < s.size
    · have hkl : k < l.length := by
        have := HS.out
        omega
      have hc := HC.out k hlt
      have hgd : l.getD k 0 = l[k] := by simp [hkl]
      rw [hgd] at hc
      have hv := HX.out l[k] (List.getElem_mem hkl)
      have HST := Aside0.mk (hval_step l k hkl)
      have hc256 : l[k].toNat < 256 := l[k].toNat_lt
      clear hgd
      generalize l[k].toNat = c at *
      have d1 : decide ((k : Int) < (s.size : Int)) = true := decide_eq_true (by omega)
      have d2 : decide (k < s.size) = true := decide_eq_true hlt
      have d3 : decide ((s.size : Int) ≤ (k : Int)) = false := decide_eq_false (by omega)
      have hcl : (48 ≤ c ∧ c ≤ 57 ∧ hexv c = c - 48) ∨ (97 ≤ c ∧ c ≤ 102 ∧ hexv c = c - 87) ∨ (65 ≤ c ∧ c ≤ 70 ∧ hexv c = c - 55) := by
        unfold hexv at hv ⊢
        split at hv
        · left
          rw [if_pos ‹_›]
          omega
        · split at hv
          · right
            left
            rw [if_neg ‹_›, if_pos ‹_›]
            omega
          · split at hv
            · right
              right
              rw [if_neg ‹_›, if_neg ‹_›, if_pos ‹_›]
              omega
            · omega
      have d4 : ((c : Int) == 95) = false := beq_eq_false_iff_ne.2 (by omega)
      have d5 : decide ((1152921504606846976 : Int) ≤ (n : Int)) = false := decide_eq_false (by omega)
      have d6 : decide (1152921504606846976 ≤ n) = false := decide_eq_false (by omega)
      have HN2 : ∀ x, hexv c = x → Aside0 (n * 16 + x = hval (l.take (k + 1))) := fun x h => ⟨by rw [HST.out, ← HN.out, h]⟩
      have hn2 : ∀ x, hexv c = x → n * 16 + x < 1152921504606846976 := fun x h => by
        rw [(HN2 x h).out]
        have h2 := hval_lt (k + 1) (l.take (k + 1)) (by rw [List.length_take]; omega) (fun c hc => HX.out c (List.take_subset _ _ hc))
        have h3 : 16 ^ (k + 1) ≤ 16 ^ 15 := Nat.pow_le_pow_right (by decide) (by omega)
        have h4 : (16 : Nat) ^ 15 = 1152921504606846976 := by decide
        omega
      rcases hcl with ⟨c0, c1, hh⟩ | ⟨c0, c1, hh⟩ | ⟨c0, c1, hh⟩
      · have HN3 := HN2 _ hh
        have hn3 := hn2 _ hh
        clear HN2 hn2 hh hv
        have t1 : decide ((48 : Int) ≤ (c : Int)) = true := decide_eq_true (by omega)
        have t2 : decide ((c : Int) ≤ 57) = true := decide_eq_true (by omega)
        have t3 : decide ((16 : Int) ≤ (c : Int) - 48) = false := decide_eq_false (by omega)
        have t4 : decide ((n : Int) * 16 + ((c : Int) - 48) < (n : Int) * 16) = false := decide_eq_false (by omega)
        have t5 : decide ((18446744073709551615 : Int) < (n : Int) * 16 + ((c : Int) - 48)) = false := decide_eq_false (by omega)
        go_wp2_with fail
        go_round
        case rel => exact ⟨k + 1, n * 16 + (c - 48), by omega, rfl, congrArg (Value.int IntKind.u64) (by omega), by go_num, HN3, hn3⟩
        case measure =>
          simp [intOf]
          omega
      · have HN3 := HN2 _ hh
        have hn3 := hn2 _ hh
        clear HN2 hn2 hh hv
        have t1 : decide ((c : Int) ≤ 57) = false := decide_eq_false (by omega)
        have t0 : decide ((48 : Int) ≤ (c : Int)) = true := decide_eq_true (by omega)
        have o1 := or_low c ⟨c0, c1⟩
        have t2 : decide ((97 : Int) ≤ (c : Int)) = true := decide_eq_true (by omega)
        have t2' : decide ((c : Int) ≤ 122) = true := decide_eq_true (by omega)
        have t3 : decide ((16 : Int) ≤ (c : Int) - 97 + 10) = false := decide_eq_false (by omega)
        have t4 : decide ((n : Int) * 16 + ((c : Int) - 97 + 10) < (n : Int) * 16) = false := decide_eq_false (by omega)
        have t5 : decide ((18446744073709551615 : Int) < (n : Int) * 16 + ((c : Int) - 97 + 10)) = false := decide_eq_false (by omega)
        go_wp2_with (go_at_call 78; refine (Tryd.internal_strconv_lower _ _).mono ?_; rintro e w' ⟨rfl, rfl⟩)
        go_round
        case rel => exact ⟨k + 1, n * 16 + (c - 87), by omega, rfl, congrArg (Value.int IntKind.u64) (by omega), by go_num, HN3, hn3⟩
        case measure =>
          simp [intOf]
          omega
      · have HN3 := HN2 _ hh
        have hn3 := hn2 _ hh
        clear HN2 hn2 hh hv
        have t1 : decide ((c : Int) ≤ 57) = false := decide_eq_false (by omega)
        have t0 : decide ((48 : Int) ≤ (c : Int)) = true := decide_eq_true (by omega)
        have o1 := or_up c ⟨c0, c1⟩
        have t2 : decide ((97 : Int) ≤ ((c : Int) + 32)) = true := decide_eq_true (by omega)
        have t2' : decide (((c : Int) + 32) ≤ 122) = true := decide_eq_true (by omega)
        have t3 : decide ((16 : Int) ≤ ((c : Int) + 32) - 97 + 10) = false := decide_eq_false (by omega)
        have t4 : decide ((n : Int) * 16 + (((c : Int) + 32) - 97 + 10) < (n : Int) * 16) = false := decide_eq_false (by omega)
        have t5 : decide ((18446744073709551615 : Int) < (n : Int) * 16 + (((c : Int) + 32) - 97 + 10)) = false := decide_eq_false (by omega)
        go_wp2_with (go_at_call 78; refine (Tryd.internal_strconv_lower _ _).mono ?_; rintro e w' ⟨rfl, rfl⟩)
        go_round
        case rel => exact ⟨k + 1, n * 16 + (c - 55), by omega, rfl, congrArg (Value.int IntKind.u64) (by omega), by go_num, HN3, hn3⟩
        case measure =>
          simp [intOf]
          omega
    · obtain rfl : k = s.size := by omega
      have d1 : decide ((s.size : Int) < (s.size : Int)) = false := decide_eq_false (by omega)
      go_wp2_with fail
      go_ret2
      exact ⟨by rw [HN.out, HL.out, List.take_of_length_le (by rw [← HS.out]; exact Nat.le_refl _)]; rfl, HB.out⟩
theorem parse_pub (s : ByteArray) (h0 : 0 < s.size) (h1 : s.size ≤ 15) (hx : ∀ c ∈ s.data.toList, hexv c.toNat < 16) (w : World) :
    Calls Tryd.prog 38 #[.string s, .int .i64 16, .int .i64 64] w fun e w' => e = .returned (.tuple #[.int .u64 (hval s.data.toList : Nat), .nilIface]) ∧ Below w.heap.size w w' := by
  go_enter Tryd.func38, Tryd.ntmps38
  go_wp2_with fail
  refine (parse_calls s h0 h1 hx w).mono ?_
  rintro e w1 ⟨rfl, hB⟩
  have HB := Aside0.mk hB
  clear hB hx
  go_wp2_with fail
  go_ret2
  exact ⟨rfl, HB.out⟩
end Go.Proofs.YtjaeligjcgjamaaDoor.DUnhex
