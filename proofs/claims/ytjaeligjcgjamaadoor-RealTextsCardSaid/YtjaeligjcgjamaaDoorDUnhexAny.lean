/- Whatever bytes as a hexadecimal number: what ParseUint at base 16 comes to. -/
import Derived.Test.YtjaeligjcgjamaaDoorDUnhex
namespace Go.Proofs.YtjaeligjcgjamaaDoor.DUnhexAny
open Go.RowKit Go.Proofs.YtjaeligjcgjamaaDoor.PRealOrder Go.Proofs.YtjaeligjcgjamaaDoorW.PrintWords Go.Proofs.YtjaeligjcgjamaaDoorW.PrintLast Go.Proofs.YtjaeligjcgjamaaDoorW.PrintMore Go.Proofs.YtjaeligjcgjamaaDoor.Aid Go.Proofs.YtjaeligjcgjamaaDoor.DRealPure Go.Proofs.YtjaeligjcgjamaaDoor.DHex Go.Proofs.YtjaeligjcgjamaaDoor.DUnhex
set_option linter.unusedVariables false
set_option linter.unusedSimpArgs false
/-- All are hexadecimal digits. -/
def AllHex (l : List UInt8) : Prop := ∀ c ∈ l, hexv c.toNat < 16
theorem lo_all : ∀ c : Fin 256, Go.bits .or .u8 ((c.val : Nat) : Int) 32 = ((c.val ||| 32 : Nat) : Int) ∧ (¬ hexv c.val < 16 → 97 ≤ c.val ||| 32 → c.val ||| 32 ≤ 122 → 103 ≤ c.val ||| 32) := by decide +kernel
theorem lo_bad (c : Nat) (h : c < 256) (hv : ¬ hexv c < 16) : ∃ lo : Nat, Go.bits .or .u8 (c : Int) 32 = (lo : Int) ∧ (97 ≤ lo → lo ≤ 122 → 103 ≤ lo) := by
  have h2 := lo_all ⟨c, h⟩
  exact ⟨c ||| 32, h2.1, h2.2 hv⟩
set_option maxHeartbeats 3200000 in
set_option maxRecDepth 100000 in
theorem parse_any (s : ByteArray) (h0 : 0 < s.size) (h1 : s.size ≤ 15) (w : World) :
    Calls Tryd.prog 58 #[.string s, .int .i64 16, .int .i64 64] w fun e w' => ((AllHex s.data.toList ∧ e = .returned (.tuple #[.int .u64 (hval s.data.toList : Nat), .nilIface])) ∨ ((¬ AllHex s.data.toList) ∧ e = .returned (.tuple #[.int .u64 0, .iface 101 (.int .i64 2)]))) ∧ Below w.heap.size w w' := by
  have he := not_empty h0
  have hcv := Lib.run_convert_string_bytes w 9 69 5 s Tryd.underlying9 Tryd.underlying69 Tryd.underlying5
  have HB : Aside0 (Below w.heap.size w (Lib.bytesWorld w 5 s)) := ⟨Lib.bytesWorld_below w 5 s⟩
  have HC : Aside0 (∀ j, j < s.size → (Lib.bytesWorld w 5 s).cell? ⟨w.heap.size, j, none⟩ = some (.int .u8 (s.data.toList.getD j 0).toNat)) := ⟨fun j hj => Lib.bytesWorld_cell w 5 s j hj⟩
  have HS : Aside0 (s.size = s.data.toList.length) := ⟨Lib.size_eq s⟩
  have eW : IntKind.u64.wrap (IntKind.u64.wrap 18446744073709551616 - 1) = 18446744073709551615 := by decide
  go_enter Tryd.func58, Tryd.ntmps58
  go_wp2_with fail
  clear eW hcv he
  generalize Lib.bytesWorld w 5 s = w1 at *
  generalize grownCap w s.size 0 5 = cp at *
  generalize hl : s.data.toList = l at *
  have HL := Aside0.mk hl
  clear hl
  go_loop [12, 13, 101] (fun su sn si => ∃ k n : Nat, k ≤ s.size ∧ su = .bool false ∧ sn = .int .u64 n ∧ si = .int .i64 k ∧ Aside0 (n = hval (l.take k)) ∧ n < 1152921504606846976 ∧ Aside0 (AllHex (l.take k))) (fun _ _ si => s.size - (intOf si).toNat)
  case atStart => exact ⟨0, 0, by omega, rfl, rfl, rfl, ⟨rfl⟩, by omega, ⟨fun c hc => by simp at hc⟩⟩
  case round =>
    obtain ⟨k, n, hk, rfl, rfl, rfl, HN, hn, HX⟩ := hrel
    by_cases hlt : k < s.size
    · have hkl : k < l.length := by
        have := HS.out
        omega
      have hc := HC.out k hlt
      have hgd : l.getD k 0 = l[k] := by simp [hkl]
      rw [hgd] at hc
      have HMEM : Aside0 (l[k] ∈ l) := ⟨List.getElem_mem hkl⟩
      have HXX : Aside0 (hexv l[k].toNat < 16 → AllHex (l.take (k + 1))) := ⟨fun h c hc => by
        rw [List.take_succ_eq_append_getElem hkl] at hc
        rcases List.mem_append.1 hc with hc | hc
        · exact HX.out c hc
        · rw [List.mem_singleton.1 hc]
          exact h⟩
      have HBAD : Aside0 (¬ hexv l[k].toNat < 16 → ¬ AllHex l) := ⟨fun h hall => h (hall _ HMEM.out)⟩
      clear HMEM
      have HST := Aside0.mk (hval_step l k hkl)
      have hc256 : l[k].toNat < 256 := l[k].toNat_lt
      clear hgd
      generalize l[k].toNat = c at *
      have d1 : decide ((k : Int) < (s.size : Int)) = true := decide_eq_true (by omega)
      have d2 : decide (k < s.size) = true := decide_eq_true hlt
      have d3 : decide ((s.size : Int) ≤ (k : Int)) = false := decide_eq_false (by omega)
      have d5 : decide ((1152921504606846976 : Int) ≤ (n : Int)) = false := decide_eq_false (by omega)
      have d6 : decide (1152921504606846976 ≤ n) = false := decide_eq_false (by omega)
      by_cases hv : hexv c < 16
      · have HX2 : Aside0 (AllHex (l.take (k + 1))) := ⟨HXX.out hv⟩
        clear HBAD HXX
        have hcl : (48 ≤ c ∧ c ≤ 57 ∧ hexv c = c - 48) ∨ (97 ≤ c ∧ c ≤ 102 ∧ hexv c = c - 87) ∨ (65 ≤ c ∧ c ≤ 70 ∧ hexv c = c - 55) := by
          unfold hexv at hv ⊢
          split at hv
          · left
            rw [if_pos ‹_›]
            omega
          · split at hv
            · right
              left
              rw [if_neg ‹_›, if_pos ‹_›]
              omega
            · split at hv
              · right
                right
                rw [if_neg ‹_›, if_neg ‹_›, if_pos ‹_›]
                omega
              · omega
        have d4 : ((c : Int) == 95) = false := beq_eq_false_iff_ne.2 (by omega)
        have HN2 : ∀ x, hexv c = x → Aside0 (n * 16 + x = hval (l.take (k + 1))) := fun x h => ⟨by rw [HST.out, ← HN.out, h]⟩
        have hn2 : ∀ x, hexv c = x → n * 16 + x < 1152921504606846976 := fun x h => by
          rw [(HN2 x h).out]
          have h2 := hval_lt (k + 1) (l.take (k + 1)) (by rw [List.length_take]; omega) HX2.out
          have h3 : 16 ^ (k + 1) ≤ 16 ^ 15 := Nat.pow_le_pow_right (by decide) (by omega)
          have h4 : (16 : Nat) ^ 15 = 1152921504606846976 := by decide
          omega
        rcases hcl with ⟨c0, c1, hh⟩ | ⟨c0, c1, hh⟩ | ⟨c0, c1, hh⟩
        · have HN3 := HN2 _ hh
          have hn3 := hn2 _ hh
          clear HN2 hn2 hh hv
          have t1 : decide ((48 : Int) ≤ (c : Int)) = true := decide_eq_true (by omega)
          have t2 : decide ((c : Int) ≤ 57) = true := decide_eq_true (by omega)
          have t3 : decide ((16 : Int) ≤ (c : Int) - 48) = false := decide_eq_false (by omega)
          have t4 : decide ((n : Int) * 16 + ((c : Int) - 48) < (n : Int) * 16) = false := decide_eq_false (by omega)
          have t5 : decide ((18446744073709551615 : Int) < (n : Int) * 16 + ((c : Int) - 48)) = false := decide_eq_false (by omega)
          go_wp2_with fail
          go_round
          case rel => exact ⟨k + 1, n * 16 + (c - 48), by omega, rfl, congrArg (Value.int IntKind.u64) (by omega), by go_num, HN3, hn3, HX2⟩
          case measure =>
            simp [intOf]
            omega
        · have HN3 := HN2 _ hh
          have hn3 := hn2 _ hh
          clear HN2 hn2 hh hv
          have t1 : decide ((c : Int) ≤ 57) = false := decide_eq_false (by omega)
          have t0 : decide ((48 : Int) ≤ (c : Int)) = true := decide_eq_true (by omega)
          have o1 := or_low c ⟨c0, c1⟩
          have t2 : decide ((97 : Int) ≤ (c : Int)) = true := decide_eq_true (by omega)
          have t2' : decide ((c : Int) ≤ 122) = true := decide_eq_true (by omega)
          have t3 : decide ((16 : Int) ≤ (c : Int) - 97 + 10) = false := decide_eq_false (by omega)
          have t4 : decide ((n : Int) * 16 + ((c : Int) - 97 + 10) < (n : Int) * 16) = false := decide_eq_false (by omega)
          have t5 : decide ((18446744073709551615 : Int) < (n : Int) * 16 + ((c : Int) - 97 + 10)) = false := decide_eq_false (by omega)
          go_wp2_with (go_at_call 78; refine (Tryd.internal_strconv_lower _ _).mono ?_; rintro e w' ⟨rfl, rfl⟩)
          go_round
          case rel => exact ⟨k + 1, n * 16 + (c - 87), by omega, rfl, congrArg (Value.int IntKind.u64) (by omega), by go_num, HN3, hn3, HX2⟩
          case measure =>
            simp [intOf]
            omega
        · have HN3 := HN2 _ hh
          have hn3 := hn2 _ hh
          clear HN2 hn2 hh hv
          have t1 : decide ((c : Int) ≤ 57) = false := decide_eq_false (by omega)
          have t0 : decide ((48 : Int) ≤ (c : Int)) = true := decide_eq_true (by omega)
          have o1 := or_up c ⟨c0, c1⟩
          have t2 : decide ((97 : Int) ≤ ((c : Int) + 32)) = true := decide_eq_true (by omega)
          have t2' : decide (((c : Int) + 32) ≤ 122) = true := decide_eq_true (by omega)
          have t3 : decide ((16 : Int) ≤ ((c : Int) + 32) - 97 + 10) = false := decide_eq_false (by omega)
          have t4 : decide ((n : Int) * 16 + (((c : Int) + 32) - 97 + 10) < (n : Int) * 16) = false := decide_eq_false (by omega)
          have t5 : decide ((18446744073709551615 : Int) < (n : Int) * 16 + (((c : Int) + 32) - 97 + 10)) = false := decide_eq_false (by omega)
          go_wp2_with (go_at_call 78; refine (Tryd.internal_strconv_lower _ _).mono ?_; rintro e w' ⟨rfl, rfl⟩)
          go_round
          case rel => exact ⟨k + 1, n * 16 + (c - 55), by omega, rfl, congrArg (Value.int IntKind.u64) (by omega), by go_num, HN3, hn3, HX2⟩
          case measure =>
            simp [intOf]
            omega
      · skip
        have HBD := Aside0.mk (HBAD.out hv)
        clear HBAD HXX HST
        have hlo := lo_bad c hc256 hv
        obtain ⟨lo, ho, hlo⟩ := hlo
        have t1 : decide ((48 : Int) ≤ (c : Int) ∧ (c : Int) ≤ 57) = false := decide_eq_false (fun h => hv (by unfold hexv; rw [if_pos (by omega)]; omega))
        have hnd : ¬ (48 ≤ c ∧ c ≤ 57) := fun h => hv (by unfold hexv; rw [if_pos h]; omega)
        rcases Bool.eq_false_or_eq_true ((c : Int) == 95) with d4 | d4
        · by_cases q1 : 48 ≤ c
          · have u1 : decide ((48 : Int) ≤ (c : Int)) = true := decide_eq_true (by omega)
            have u2 : decide ((c : Int) ≤ 57) = false := decide_eq_false (by omega)
            by_cases q2 : 97 ≤ lo
            · have u3 : decide ((97 : Int) ≤ (lo : Int)) = true := decide_eq_true (by omega)
              by_cases q3 : lo ≤ 122
              · have u4 : decide ((lo : Int) ≤ 122) = true := decide_eq_true (by omega)
                have hg := hlo q2 q3
                have u5 : decide ((16 : Int) ≤ (lo : Int) - 97 + 10) = true := decide_eq_true (by omega)
                go_wp2_with (go_at_call 78; refine (Tryd.internal_strconv_lower _ _).mono ?_; rintro e w' ⟨rfl, rfl⟩)
                go_ret2
                exact ⟨.inr ⟨by rw [HL.out]; exact HBD.out, rfl⟩, HB.out⟩
              · have u4 : decide ((lo : Int) ≤ 122) = false := decide_eq_false (by omega)
                go_wp2_with (go_at_call 78; refine (Tryd.internal_strconv_lower _ _).mono ?_; rintro e w' ⟨rfl, rfl⟩)
                go_ret2
                exact ⟨.inr ⟨by rw [HL.out]; exact HBD.out, rfl⟩, HB.out⟩
            · have u3 : decide ((97 : Int) ≤ (lo : Int)) = false := decide_eq_false (by omega)
              go_wp2_with (go_at_call 78; refine (Tryd.internal_strconv_lower _ _).mono ?_; rintro e w' ⟨rfl, rfl⟩)
              go_ret2
              exact ⟨.inr ⟨by rw [HL.out]; exact HBD.out, rfl⟩, HB.out⟩
          · have u1 : decide ((48 : Int) ≤ (c : Int)) = false := decide_eq_false (by omega)
            by_cases q2 : 97 ≤ lo
            · have u3 : decide ((97 : Int) ≤ (lo : Int)) = true := decide_eq_true (by omega)
              by_cases q3 : lo ≤ 122
              · have u4 : decide ((lo : Int) ≤ 122) = true := decide_eq_true (by omega)
                have hg := hlo q2 q3
                have u5 : decide ((16 : Int) ≤ (lo : Int) - 97 + 10) = true := decide_eq_true (by omega)
                go_wp2_with (go_at_call 78; refine (Tryd.internal_strconv_lower _ _).mono ?_; rintro e w' ⟨rfl, rfl⟩)
                go_ret2
                exact ⟨.inr ⟨by rw [HL.out]; exact HBD.out, rfl⟩, HB.out⟩
              · have u4 : decide ((lo : Int) ≤ 122) = false := decide_eq_false (by omega)
                go_wp2_with (go_at_call 78; refine (Tryd.internal_strconv_lower _ _).mono ?_; rintro e w' ⟨rfl, rfl⟩)
                go_ret2
                exact ⟨.inr ⟨by rw [HL.out]; exact HBD.out, rfl⟩, HB.out⟩
            · have u3 : decide ((97 : Int) ≤ (lo : Int)) = false := decide_eq_false (by omega)
              go_wp2_with (go_at_call 78; refine (Tryd.internal_strconv_lower _ _).mono ?_; rintro e w' ⟨rfl, rfl⟩)
              go_ret2
              exact ⟨.inr ⟨by rw [HL.out]; exact HBD.out, rfl⟩, HB.out⟩
        · by_cases q1 : 48 ≤ c
          · have u1 : decide ((48 : Int) ≤ (c : Int)) = true := decide_eq_true (by omega)
            have u2 : decide ((c : Int) ≤ 57) = false := decide_eq_false (by omega)
            by_cases q2 : 97 ≤ lo
            · have u3 : decide ((97 : Int) ≤ (lo : Int)) = true := decide_eq_true (by omega)
              by_cases q3 : lo ≤ 122
              · have u4 : decide ((lo : Int) ≤ 122) = true := decide_eq_true (by omega)
                have hg := hlo q2 q3
                have u5 : decide ((16 : Int) ≤ (lo : Int) - 97 + 10) = true := decide_eq_true (by omega)
                go_wp2_with (go_at_call 78; refine (Tryd.internal_strconv_lower _ _).mono ?_; rintro e w' ⟨rfl, rfl⟩)
                go_ret2
                exact ⟨.inr ⟨by rw [HL.out]; exact HBD.out, rfl⟩, HB.out⟩
              · have u4 : decide ((lo : Int) ≤ 122) = false := decide_eq_false (by omega)
                go_wp2_with (go_at_call 78; refine (Tryd.internal_strconv_lower _ _).mono ?_; rintro e w' ⟨rfl, rfl⟩)
                go_ret2
                exact ⟨.inr ⟨by rw [HL.out]; exact HBD.out, rfl⟩, HB.out⟩
            · have u3 : decide ((97 : Int) ≤ (lo : Int)) = false := decide_eq_false (by omega)
              go_wp2_with (go_at_call 78; refine (Tryd.internal_strconv_lower _ _).mono ?_; rintro e w' ⟨rfl, rfl⟩)
              go_ret2
              exact ⟨.inr ⟨by rw [HL.out]; exact HBD.out, rfl⟩, HB.out⟩
          · have u1 : decide ((48 : Int) ≤ (c : Int)) = false := decide_eq_false (by omega)
            by_cases q2 : 97 ≤ lo
            · have u3 : decide ((97 : Int) ≤ (lo : Int)) = true := decide_eq_true (by omega)
              by_cases q3 : lo ≤ 122
              · have u4 : decide ((lo : Int) ≤ 122) = true := decide_eq_true (by omega)
                have hg := hlo q2 q3
                have u5 : decide ((16 : Int) ≤ (lo : Int) - 97 + 10) = true := decide_eq_true (by omega)
                go_wp2_with (go_at_call 78; refine (Tryd.internal_strconv_lower _ _).mono ?_; rintro e w' ⟨rfl, rfl⟩)
                go_ret2
                exact ⟨.inr ⟨by rw [HL.out]; exact HBD.out, rfl⟩, HB.out⟩
              · have u4 : decide ((lo : Int) ≤ 122) = false := decide_eq_false (by omega)
                go_wp2_with (go_at_call 78; refine (Tryd.internal_strconv_lower _ _).mono ?_; rintro e w' ⟨rfl, rfl⟩)
                go_ret2
                exact ⟨.inr ⟨by rw [HL.out]; exact HBD.out, rfl⟩, HB.out⟩
            · have u3 : decide ((97 : Int) ≤ (lo : Int)) = false := decide_eq_false (by omega)
              go_wp2_with (go_at_call 78; refine (Tryd.internal_strconv_lower _ _).mono ?_; rintro e w' ⟨rfl, rfl⟩)
              go_ret2
              exact ⟨.inr ⟨by rw [HL.out]; exact HBD.out, rfl⟩, HB.out⟩
    · obtain rfl : k = s.size := by omega
      have d1 : decide ((s.size : Int) < (s.size : Int)) = false := decide_eq_false (by omega)
      go_wp2_with fail
      go_ret2
      have hfull : l.take s.size = l := List.take_of_length_le (by rw [← HS.out]; exact Nat.le_refl _)
      exact ⟨.inl ⟨by rw [HL.out, ← hfull]; exact HX.out, by rw [HN.out, HL.out, hfull]; rfl⟩, HB.out⟩
end Go.Proofs.YtjaeligjcgjamaaDoor.DUnhexAny
