/- The hexadecimal digits of a number: what FormatUint at base 16 comes to. -/
import Derived.Test.YtjaeligjcgjamaaDoorDRealPure
import Derived.Test.YtjaeligjcgjamaaDoorShelf
namespace Go.Proofs.YtjaeligjcgjamaaDoor.DHex
open Go.RowKit Go.Proofs.YtjaeligjcgjamaaDoor.PRealOrder Go.Proofs.YtjaeligjcgjamaaDoorW.PrintWords Go.Proofs.YtjaeligjcgjamaaDoorW.PrintLast Go.Proofs.YtjaeligjcgjamaaDoorW.PrintMore Go.Proofs.YtjaeligjcgjamaaDoor.Aid Go.Proofs.YtjaeligjcgjamaaDoor.FloatPlain Go.Proofs.YtjaeligjcgjamaaDoor.DRealPure
set_option linter.unusedVariables false
set_option linter.unusedSimpArgs false
/-- A digit's letter. -/
def hd (d : Nat) : Nat := if d < 10 then 48 + d else 87 + d
/-- The array when j digits are written. -/
def arr (u j : Nat) : Array Value := ((List.range 65).map fun t => Value.int .u8 (((if 65 - j ≤ t then hd (u / 16 ^ (64 - t) % 16) else 0) : Nat) : Int)).toArray
theorem zero_cells : Tryd.zeroCells112 = ((List.range 65).map fun _ => Value.int .u8 0).toArray := by kernel_rfl
theorem arr_zero (u : Nat) : Tryd.zeroCells112 = arr u 0 := by
  have h : ((List.range 65).map fun t => Value.int .u8 (((if 65 - 0 ≤ t then hd (u / 16 ^ (64 - t) % 16) else 0) : Nat) : Int)) = (List.range 65).map fun _ => Value.int .u8 0 := by
    refine List.map_congr_left fun t ht => ?_
    have := List.mem_range.1 ht
    rw [if_neg (by omega)]
    rfl
  unfold arr
  rw [h]
  exact zero_cells
theorem arr_succ (u : Nat) {j : Nat} (h : j < 65) : (arr u j).setIfInBounds (64 - j) (.int .u8 (hd (u / 16 ^ j % 16) : Nat)) = arr u (j + 1) := by
  unfold arr
  apply Array.ext'
  rw [List.setIfInBounds_toArray]
  simp only
  apply List.ext_getElem
  · simp
  · intro i h1 h2
    simp at h1
    rw [List.getElem_set]
    simp only [List.getElem_map, List.getElem_range]
    by_cases e : 64 - j = i
    · rw [if_pos e, if_pos (by omega)]
      have e2 : 64 - i = j := by omega
      rw [e2]
    · rw [if_neg e]
      by_cases c : 65 - j ≤ i
      · rw [if_pos c, if_pos (by omega)]
      · rw [if_neg c, if_neg (by omega)]
theorem arr_size (u j : Nat) : (arr u j).size = 65 := by simp [arr]
theorem arr_get (u j t : Nat) (h : t < 65) : (arr u j)[t]? = some (.int .u8 (((if 65 - j ≤ t then hd (u / 16 ^ (64 - t) % 16) else 0) : Nat) : Int)) := by
  simp [arr, h]
/-- How many digits a number has, one at least. -/
def nd (u : Nat) : Nat := if u = 0 then 1 else u.log2 / 4 + 1
theorem size_el (w : World) : (sizeOf (Tryd.prog.elem 112)).run Tryd.prog w = .ok 1 w := by kernel_rfl
theorem arrayLen112 : Tryd.prog.arrayLen 112 = 65 := by kernel_rfl
/-- The digits' letters, the highest first. -/
def digs (u n : Nat) : List Int := (List.range n).map fun k => ((hd (u / 16 ^ (n - 1 - k) % 16) : Nat) : Int)
theorem add_flat (g o k : Nat) : (⟨g, o, none⟩ : Addr).add k = ⟨g, o + k, none⟩ := Go.WideShapes.add_plain _ _ _
theorem digs_row {w : World} {g u n : Nat} (h : w.heap[g]? = some (.cells (arr u n) 112 (0, 0))) (hn : n ≤ 65) : (Kd.int .u8).C w (some ⟨g, 65 - n, none⟩) n (digs u n) := by
  refine Kd.C_of_reads (d := (0 : Int)) (h1 := fun _ => rfl) ⟨by simp [digs], by omega, fun h0 => ⟨_, rfl, fun k hk => ?_⟩⟩
  have hc := (blk_cell h (65 - n + k)).trans (arr_get u n (65 - n + k) (by omega))
  rw [if_pos (by omega)] at hc
  have e : 64 - (65 - n + k) = n - 1 - k := by omega
  rw [e] at hc
  have e2 : (digs u n).getD k 0 = ((hd (u / 16 ^ (n - 1 - k) % 16) : Nat) : Int) := by
    simp [digs, hk]
  rw [e2, add_flat]
  exact hc
theorem letB (d : Nat) (h : d < 16) (hb : d < ByteArray.size ⟨#[48, 49, 50, 51, 52, 53, 54, 55, 56, 57, 97, 98, 99, 100, 101, 102, 103, 104, 105, 106, 107, 108, 109, 110, 111, 112, 113, 114, 115, 116, 117, 118, 119, 120, 121, 122]⟩) : ((⟨#[48, 49, 50, 51, 52, 53, 54, 55, 56, 57, 97, 98, 99, 100, 101, 102, 103, 104, 105, 106, 107, 108, 109, 110, 111, 112, 113, 114, 115, 116, 117, 118, 119, 120, 121, 122]⟩ : ByteArray)[d]'hb).toNat = hd d := by
  have hd : d = 0 ∨ d = 1 ∨ d = 2 ∨ d = 3 ∨ d = 4 ∨ d = 5 ∨ d = 6 ∨ d = 7 ∨ d = 8 ∨ d = 9 ∨ d = 10 ∨ d = 11 ∨ d = 12 ∨ d = 13 ∨ d = 14 ∨ d = 15 := by omega
  rcases hd with rfl | rfl | rfl | rfl | rfl | rfl | rfl | rfl | rfl | rfl | rfl | rfl | rfl | rfl | rfl | rfl <;> rfl
theorem tz64_calls (w : World) (hz : w.cell? ⟨6, 15, none⟩ = some (.int .u8 4)) : Calls Tryd.prog 97 #[.int .u64 16] w fun e w' => e = .returned (.int .i64 4) ∧ w' = w := by
  have e1 : Go.bits .and .u64 16 (IntKind.u64.wrap (-16)) = 16 := by decide
  have e2 : IntKind.u64.wrap (16 * 285870213051353865) = 4573923408821661840 := by decide
  have e3 : (4573923408821661840 : Int) / 288230376151711744 = 15 := by decide
  go_enter Tryd.func97, Tryd.ntmps97
  go_wp2_with fail
  go_ret
  exact ⟨rfl, rfl⟩
theorem tz_calls (w : World) (hz : w.cell? ⟨6, 15, none⟩ = some (.int .u8 4)) : Calls Tryd.prog 84 #[.int .u64 16] w fun e w' => e = .returned (.int .i64 4) ∧ w' = w := by
  go_enter Tryd.func84, Tryd.ntmps84
  go_wp2_with fail
  refine (tz64_calls _ hz).mono ?_
  rintro e w1 ⟨rfl, rfl⟩
  go_wp2_with fail
  go_ret
  exact ⟨rfl, rfl⟩
theorem pow_calls (w : World) : Calls Tryd.prog 83 #[.int .i64 16] w fun e w' => e = .returned (.bool true) ∧ w' = w := by
  have e1 : Go.bits .and .i64 16 15 = 0 := by decide
  go_enter Tryd.func83, Tryd.ntmps83
  go_wp2_with fail
  go_ret
  exact ⟨rfl, rfl⟩
set_option maxHeartbeats 1600000 in
set_option maxRecDepth 100000 in
theorem bits_calls (u : Nat) (h : u < 18446744073709551616) (w : World) (hz : w.cell? ⟨6, 15, none⟩ = some (.int .u8 4)) :
    Calls Tryd.prog 62 #[.slice none 0 0, .int .u64 u, .int .i64 16, .bool false, .bool false] w fun e w' => ∃ j, e = .returned (.tuple #[.slice none 0 0, .string (strOfNums (digs u (j + 1)))]) ∧ j ≤ 15 ∧ Aside0 (u / 16 ^ j < 16) ∧ Aside0 (j = 0 ∨ 1 ≤ u / 16 ^ j) ∧ Below w.heap.size w w' := by
  have hz0 : 6 < w.heap.size := by
    rcases Nat.lt_or_ge 6 w.heap.size with h0 | h0
    · exact h0
    · simp [World.cell?, Array.getElem?_eq_none h0] at hz
  have HG : Aside0 ((w.alloc (.cells Tryd.zeroCells112 112)).heap[w.heap.size]? = some (.cells (arr u 0) 112 (0, 0))) := ⟨by rw [← arr_zero]; exact blk_new w _⟩
  have HB : Aside0 (Below w.heap.size w (w.alloc (.cells Tryd.zeroCells112 112))) := ⟨below_alloc (Below.refl _ _) _⟩
  have hz1 : (w.alloc (.cells Tryd.zeroCells112 112)).cell? ⟨6, 15, none⟩ = some (.int .u8 4) := (HB.out.cell (p := ⟨6, 15, none⟩) hz0).trans hz
  go_enter Tryd.func62, Tryd.ntmps62
  go_wp2_with fail
  generalize w.alloc (.cells Tryd.zeroCells112 112) = w1 at *
  have hg0 : w.heap.size < w1.heap.size := blk_lt HG.out
  generalize hgs : w.heap.size = g at *
  have HGS := Aside0.mk hgs
  clear hgs
  refine (pow_calls _).mono ?_
  rintro e w2 ⟨rfl, rfl⟩
  go_wp2_with fail
  refine (tz_calls _ hz1).mono ?_
  rintro e w2 ⟨rfl, rfl⟩
  clear hz hz1 hz0
  go_wp2_with fail
  go_loopw [1, 13] (fun su si wr => ∃ j U : Nat, su = .int .u64 U ∧ si = .int .i64 ((65 - j : Nat) : Int) ∧ j ≤ 15 ∧ U < 18446744073709551616 ∧ Aside0 (U = u / 16 ^ j) ∧ Aside0 (U < 16 ^ (16 - j)) ∧ Aside0 (j = 0 ∨ 1 ≤ U) ∧ Aside0 (wr.heap[g]? = some (.cells (arr u j) 112 (0, 0))) ∧ Aside0 (Below g w wr)) (fun su _ _ => (intOf su).toNat)
  case atStart => exact ⟨0, u, rfl, rfl, by omega, h, ⟨by simp⟩, ⟨by simpa using h⟩, ⟨.inl rfl⟩, HG, HB⟩
  case round =>
    clear HG HB
    obtain ⟨j, U, rfl, rfl, hj, hU, HU, HL, HP, HG, HB⟩ := hrel
    by_cases hlt : 16 ≤ U
    · have hj15 : j < 15 := by
        by_cases h15 : j < 15
        · exact h15
        · have e15 : j = 15 := by omega
          have := HL.out
          rw [e15] at this
          omega
      have hc := (blk_cell HG.out (64 - j)).trans (arr_get u j (64 - j) (by omega))
      have hf := blk_frozen HG.out (64 - j)
      rw [if_neg (by omega)] at hc
      have e0 : (((65 - j : Nat) : Int) - 1) = ((64 - j : Nat) : Int) := by omega
      have e1 : Go.bits .and .u64 (U : Int) 15 = ((U % 16 : Nat) : Int) := and_low hU 4 (by omega)
      have e2 := letB (U % 16) (by omega)
      have HD : Aside0 (U % 16 = u / 16 ^ j % 16) := ⟨by rw [← HU.out]⟩
      have hU2 : U / 16 < 18446744073709551616 := by omega
      have HUq : Aside0 (U / 16 = u / 16 ^ (j + 1)) := ⟨by rw [HU.out, Nat.pow_succ, Nat.div_div_eq_div_mul]⟩
      have HLq : Aside0 (U / 16 < 16 ^ (16 - (j + 1))) := ⟨by
        have h1 := HL.out
        have h2 : 16 - j = (16 - (j + 1)) + 1 := by omega
        rw [h2, Nat.pow_succ] at h1
        omega⟩
      have d1 : decide ((16 : Int) ≤ (U : Int)) = true := decide_eq_true (by omega)
      have d2 : decide (16 ≤ U) = true := decide_eq_true hlt
      have d3 : decide ((65 : Int) ≤ ((64 - j : Nat) : Int)) = false := decide_eq_false (by omega)
      have d4 : decide (65 ≤ 64 - j) = false := decide_eq_false (by omega)
      go_wp2_with fail
      go_roundw
      case rel => exact ⟨j + 1, U / 16, congrArg (Value.int IntKind.u64) (by omega), congrArg (Value.int IntKind.i64) (by omega), by omega, hU2, HUq, HLq, ⟨.inr (by omega)⟩, ⟨by
        have h := blk_set HG.out (64 - j) (.int .u8 (hd (U % 16) : Nat))
        rw [HD.out, arr_succ u (by omega)] at h
        rw [HD.out]
        exact h⟩, ⟨HB.out.setCell (Nat.le_refl _) _⟩⟩
      case measure =>
        simp [intOf]
        omega
    · have hc := (blk_cell HG.out (64 - j)).trans (arr_get u j (64 - j) (by omega))
      have hf := blk_frozen HG.out (64 - j)
      rw [if_neg (by omega)] at hc
      have e0 : (((65 - j : Nat) : Int) - 1) = ((64 - j : Nat) : Int) := by omega
      have e2 := letB U (by omega)
      have HD : Aside0 (U = u / 16 ^ j % 16) := ⟨by rw [← HU.out]; omega⟩
      have d1 : decide ((16 : Int) ≤ (U : Int)) = false := decide_eq_false (by omega)
      have d2 : decide (16 ≤ U) = false := decide_eq_false hlt
      have d3 : decide ((65 : Int) ≤ ((64 - j : Nat) : Int)) = false := decide_eq_false (by omega)
      have d4 : decide (65 ≤ 64 - j) = false := decide_eq_false (by omega)
      have hU16 : Aside0 (u / 16 ^ j < 16) := ⟨by rw [← HU.out]; omega⟩
      have hHi : Aside0 (j = 0 ∨ 1 ≤ u / 16 ^ j) := ⟨by rw [← HU.out]; exact HP.out⟩
      go_upto_region 30 with fail
      have HG2 : Aside0 ((wr.setCell ⟨g, 64 - j, none⟩ (.int .u8 (hd U : Nat))).heap[g]? = some (.cells (arr u (j + 1)) 112 (0, 0))) := ⟨by
        have h := blk_set HG.out (64 - j) (.int .u8 (hd U : Nat))
        have hs := arr_succ u (j := j) (by omega)
        rw [← HD.out] at hs
        rw [hs] at h
        exact h⟩
      have HB2 : Aside0 (Below g w (wr.setCell ⟨g, 64 - j, none⟩ (.int .u8 (hd U : Nat)))) := ⟨HB.out.setCell (Nat.le_refl _) _⟩
      generalize wr.setCell ⟨g, 64 - j, none⟩ (.int .u8 (hd U : Nat)) = w3 at *
      have HC : Aside0 ((Kd.int .u8).C w3 (some ⟨g, 64 - j, none⟩) (j + 1) (digs u (j + 1))) := ⟨by
        have h := digs_row HG2.out (by omega)
        rwa [show 65 - (j + 1) = 64 - j by omega] at h⟩
      have hcv : (convert 69 9 (.slice (some ⟨g, 64 - j, none⟩) (j + 1) (j + 1))).run Tryd.prog w3 = .ok (.string (strOfNums (digs u (j + 1)))) w3 := Kd.C_string Tryd.underlying69 Tryd.underlying5 Tryd.underlying9 HC.out
      have hsl : (Instr.sliceAt 112 (.pointer (some ⟨g, 0, none⟩)) (some (.int .i64 ((64 - j : Nat) : Int))) none none).run Tryd.prog w3 = .ok (.slice (some ⟨g, 64 - j, none⟩) (j + 1) (j + 1)) w3 := by
        have h := run_sliceAt_array_l (P := Tryd.prog) (w := w3) (a := ⟨g, 0, none⟩) (t := 112) (by kernel_rfl) .i64 ((64 - j : Nat) : Int) (by omega) (by rw [arrayLen112]; omega)
        rw [h, size_el, Int.toNat_natCast, arrayLen112]
        simp only [Result.andThen, slicedAt]
        rw [if_neg (by omega), add_flat, Nat.mul_one, Nat.zero_add, show 65 - (64 - j) = j + 1 by omega]
      clear hc hf e2 HG HB
      go_wp2_with fail
      go_ret2
      exact ⟨j, rfl, hj, hU16, hHi, by rw [HGS.out]; exact HB2.out⟩
/-- What FormatUint at base 16 comes to. -/
def HexPost (u : Nat) (w : World) (e : Ending) (w' : World) : Prop := ∃ j, e = .returned (.string (strOfNums (digs u (j + 1)))) ∧ j ≤ 15 ∧ u / 16 ^ j < 16 ∧ (j = 0 ∨ 1 ≤ u / 16 ^ j) ∧ Below w.heap.size w w'
theorem fmt_calls (u : Nat) (h : u < 18446744073709551616) (w : World) (hz : w.cell? ⟨6, 15, none⟩ = some (.int .u8 4)) : Calls Tryd.prog 39 #[.int .u64 u, .int .i64 16] w (HexPost u w) := by
  go_enter Tryd.func39, Tryd.ntmps39
  go_wp2_with fail
  refine (bits_calls u h w hz).mono ?_
  rintro e w1 ⟨j, rfl, h1, h2, h3, hB⟩
  have HB := Aside0.mk hB
  clear hB
  go_wp2_with fail
  go_ret
  exact ⟨j, rfl, h1, h2.out, h3.out, HB.out⟩
theorem fmt_pub (u : Nat) (h : u < 18446744073709551616) (w : World) (hz : w.cell? ⟨6, 15, none⟩ = some (.int .u8 4)) : Calls Tryd.prog 25 #[.int .u64 u, .int .i64 16] w (HexPost u w) := by
  go_enter Tryd.func25, Tryd.ntmps25
  go_wp2_with fail
  refine (fmt_calls u h w hz).mono ?_
  rintro e w1 ⟨j, rfl, h1, h2, h3, hB⟩
  have HB := Aside0.mk hB
  have H3 := Aside0.mk h3
  clear hB h3
  go_wp2_with fail
  go_ret
  exact ⟨j, rfl, h1, h2, H3.out, HB.out⟩
end Go.Proofs.YtjaeligjcgjamaaDoor.DHex
