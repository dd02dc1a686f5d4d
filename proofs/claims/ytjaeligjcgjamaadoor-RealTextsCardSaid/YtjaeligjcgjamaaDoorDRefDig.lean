/- What the reference's digits answers: a whole number in decimal. -/
import Derived.Test.YtjaeligjcgjamaaDoorDTextW
namespace Go.Proofs.YtjaeligjcgjamaaDoor.DRefDig
open Go.RowKit Go.Proofs.YtjaeligjcgjamaaDoor.PRealOrder Go.Proofs.YtjaeligjcgjamaaDoorW.PrintWords Go.Proofs.YtjaeligjcgjamaaDoorW.PrintLast Go.Proofs.YtjaeligjcgjamaaDoorW.PrintMore Go.Proofs.YtjaeligjcgjamaaDoor.Aid Go.Proofs.YtjaeligjcgjamaaDoor.FloatPlain Go.Proofs.YtjaeligjcgjamaaDoor.DRealPure Go.Proofs.YtjaeligjcgjamaaDoor.DHex Go.Proofs.YtjaeligjcgjamaaDoor.DUnhex Go.Proofs.YtjaeligjcgjamaaDoor.DUnhexAny Go.Proofs.YtjaeligjcgjamaaDoor.DWorks Go.Proofs.YtjaeligjcgjamaaDoor.DTxt Go.Proofs.YtjaeligjcgjamaaDoor.DTextW
set_option linter.unusedVariables false
set_option linter.unusedSimpArgs false
/-- How far the loop is. -/
def Far (N : Nat) (L : List UInt8) (m : Nat) : Prop := if 0 < m ∨ L = [] then Lib.decDigits m ++ L = Lib.decDigits N else L = Lib.decDigits N
theorem far_step {N m : Nat} {L : List UInt8} (h : Far N L m) (hc : 0 < m ∨ L = []) : Far N (UInt8.ofNat (48 + m % 10) :: L) (m / 10) := by
  unfold Far at h ⊢
  rw [if_pos hc] at h
  rw [← h]
  by_cases h0 : 0 < m / 10
  · rw [if_pos (.inl h0)]
    have e : Lib.decDigits m = Lib.decDigits (m / 10) ++ [UInt8.ofNat (48 + m % 10)] := by
      rw [Lib.decDigits, dif_neg (by omega)]
    rw [e]
    simp
  · rw [if_neg (by simp; omega)]
    have e : Lib.decDigits m = [UInt8.ofNat (48 + m)] := by
      rw [Lib.decDigits, dif_pos (by omega)]
    have e2 : m % 10 = m := by omega
    rw [e, e2]
    rfl
theorem far_end {N m : Nat} {L : List UInt8} (h : Far N L m) (hc : ¬ (0 < m ∨ L = [])) : L = Lib.decDigits N := by
  unfold Far at h
  rw [if_neg hc] at h
  exact h
theorem byte_string (w : World) (x : Int) : (convert 69 9 (.slice (some ⟨w.heap.size, 0, none⟩) 1 1)).run Tryd.prog (w.alloc (.cells #[.int .u8 x] 5)) = .ok (.string ⟨[UInt8.ofNat x.toNat].toArray⟩) (w.alloc (.cells #[.int .u8 x] 5)) := by
  have hC : (Kd.int .u8).C (w.alloc (.cells #[.int .u8 x] 5)) (some ⟨w.heap.size, 0, none⟩) 1 [x] := by
    refine Kd.C_of_reads (d := (0 : Int)) (h1 := fun _ => rfl) ⟨rfl, by decide, fun h0 => ⟨_, rfl, fun k hk => ?_⟩⟩
    obtain rfl : k = 0 := by omega
    have hc := blk_cell (blk_new w (.cells #[.int .u8 x] 5)) 0
    exact hc
  exact Kd.C_string Tryd.underlying69 Tryd.underlying5 Tryd.underlying9 hC
set_option maxHeartbeats 3200000 in
set_option maxRecDepth 100000 in
theorem digits_abs (n : Int) (N : Nat) (hN : N < 1000000) (neg : Bool) (hn : if neg = true then n = -(N : Int) ∧ 0 < N else n = (N : Int)) (w : World) : Calls Tryd.prog 29 #[.int .i64 n] w fun e w' => e = .returned (.string ⟨(Lib.itoa n).toArray⟩) ∧ Below w.heap.size w w' := by
  have HI : Aside0 (Lib.itoa n = (if neg = true then [45] else []) ++ Lib.decDigits N) := ⟨by
    unfold Lib.itoa
    cases neg
    · rw [if_neg (by decide)] at hn
      rw [if_neg (show ¬ n < 0 by omega), hn, if_neg (by decide)]
      rfl
    · rw [if_pos rfl] at hn
      rw [if_pos (show n < 0 by omega), if_pos rfl]
      have : n.natAbs = N := by omega
      rw [this]
      rfl⟩
  have HB0 : Aside0 (Below w.heap.size w w) := ⟨Below.refl _ _⟩
  cases neg
  · rw [if_neg (by decide)] at hn
    subst hn
    have d0 : decide ((N : Int) < 0) = false := decide_eq_false (by omega)
    go_enter Tryd.func29, Tryd.ntmps29
    go_wp2_with fail
    go_loopw [3, 4] (fun ss sm wr => ∃ (L : List UInt8) (m : Nat), ss = .string ⟨L.toArray⟩ ∧ sm = .int .i64 m ∧ m < 1000000 ∧ L.length + m ≤ 1000001 ∧ Aside0 (Far N L m) ∧ Aside0 (Below w.heap.size w wr)) (fun ss sm _ => 2 * (intOf sm).toNat + (1 - Lib.strSize ss))
    case atStart => exact ⟨[], N, rfl, rfl, hN, by simp; omega, ⟨by unfold Far; rw [if_pos (.inr rfl), List.append_nil]⟩, HB0⟩
    case round =>
      obtain ⟨L, m, rfl, rfl, hm, hL, HF, HB⟩ := hrel
      have hcv : ∀ (x : Int), 0 ≤ x → x < 256 → (convert 69 9 (.slice (some ⟨wr.heap.size, 0, none⟩) 1 1)).run Tryd.prog (wr.alloc (.cells #[.int .u8 x] 5)) = .ok (.string ⟨[UInt8.ofNat x.toNat].toArray⟩) (wr.alloc (.cells #[.int .u8 x] 5)) := fun x h0 h1 => byte_string wr x
      have HB2 : Aside0 (∀ o, Below w.heap.size w (wr.alloc o)) := ⟨fun o => below_alloc HB.out o⟩
      by_cases hc : 0 < m ∨ L = []
      · have HN := Aside0.mk (far_step HF.out hc)
        by_cases h0 : 0 < m
        · have t1 : (m : Int).tmod 10 = ((m % 10 : Nat) : Int) := by rw [Int.tmod_eq_emod_of_nonneg (by omega)]; omega
          have t2 : (m : Int).tdiv 10 = ((m / 10 : Nat) : Int) := by rw [Int.tdiv_eq_ediv_of_nonneg (by omega)]; omega
          have d2 : decide (0 < (m : Int)) = true := decide_eq_true (by omega)
          have d3 : decide (0 < m) = true := decide_eq_true h0
          have h2 := hcv (48 + (m : Int) % 10) (by omega) (by omega)
          have e2 : (48 + (m : Int) % 10).toNat = 48 + m % 10 := by omega
          rw [e2] at h2
          generalize UInt8.ofNat (48 + m % 10) = c at h2 HN
          have hc1 : ¬ (9223372036854775807 < 1 + L.length) := by omega
          clear hcv HF
          go_wp2_with fail
          go_roundw
          case rel => exact ⟨c :: L, m / 10, by rw [ByteArray.mk_append_mk]; rfl, congrArg (Value.int IntKind.i64) (by omega), by omega, by rw [List.length_cons]; omega, HN, ⟨HB2.out _⟩⟩
          case measure =>
            simp [intOf, Lib.strSize_string, ByteArray.size_append', ByteArray.size_mk']
            omega
        · have hLn : L = [] := hc.resolve_left h0
          subst hLn
          obtain rfl : m = 0 := by omega
          have h2 := hcv 48 (by omega) (by omega)
          clear hcv HF
          go_wp2_with fail
          go_roundw
          case rel => exact ⟨[48], 0, rfl, rfl, by omega, by simp, HN, ⟨HB2.out _⟩⟩
          case measure => simp [intOf, Lib.strSize_string, ByteArray.size_append', ByteArray.size_mk']
      · have HE := Aside0.mk (far_end HF.out hc)
        have hm0 : m = 0 := by omega
        have hLn : L ≠ [] := fun h => hc (.inr h)
        subst hm0
        have d5 : (L == []) = false := beq_eq_false_iff_ne.2 hLn
        have d6 : L.isEmpty = false := by
          cases L with
          | nil => exact absurd rfl hLn
          | cons a b => rfl
        have hc2 : ¬ (9223372036854775807 < 1 + L.length) := by omega
        clear hcv HF hc HB2
        go_wp2_with fail
        go_ret
        refine ⟨?_, HB.out⟩
        rw [HI.out, ← HE.out]
        first | rfl | (simp [ByteArray.mk_append_mk]; done) | (congr 2; rw [show (⟨#[45]⟩ : ByteArray) = ⟨[45].toArray⟩ from rfl, ba_app]; rfl)
  · rw [if_pos rfl] at hn
    obtain ⟨hn, hN0⟩ := hn
    subst hn
    have d0 : decide (-(N : Int) < 0) = true := decide_eq_true (by omega)
    have dn : IntKind.i64.wrap (-(-(N : Int))) = (N : Int) := by
      rw [i64_w, w64 (by omega) (by omega)]
      omega
    have dn1 : IntKind.i64.wrap (N : Int) = (N : Int) := (i64_w _).trans (w64 (by omega) (by omega))
    have dn2 : (-(N : Int) < 0) := by omega
    have dn3 : decide (0 < (N : Int)) = true := decide_eq_true (by omega)
    have dn4 : decide (0 < N) = true := decide_eq_true (by omega)
    go_enter Tryd.func29, Tryd.ntmps29
    go_wp2_with fail
    go_loopw [3, 4] (fun ss sm wr => ∃ (L : List UInt8) (m : Nat), ss = .string ⟨L.toArray⟩ ∧ sm = .int .i64 m ∧ m < 1000000 ∧ L.length + m ≤ 1000001 ∧ Aside0 (Far N L m) ∧ Aside0 (Below w.heap.size w wr)) (fun ss sm _ => 2 * (intOf sm).toNat + (1 - Lib.strSize ss))
    case atStart => exact ⟨[], N, rfl, rfl, hN, by simp; omega, ⟨by unfold Far; rw [if_pos (.inr rfl), List.append_nil]⟩, HB0⟩
    case round =>
      obtain ⟨L, m, rfl, rfl, hm, hL, HF, HB⟩ := hrel
      have hcv : ∀ (x : Int), 0 ≤ x → x < 256 → (convert 69 9 (.slice (some ⟨wr.heap.size, 0, none⟩) 1 1)).run Tryd.prog (wr.alloc (.cells #[.int .u8 x] 5)) = .ok (.string ⟨[UInt8.ofNat x.toNat].toArray⟩) (wr.alloc (.cells #[.int .u8 x] 5)) := fun x h0 h1 => byte_string wr x
      have HB2 : Aside0 (∀ o, Below w.heap.size w (wr.alloc o)) := ⟨fun o => below_alloc HB.out o⟩
      by_cases hc : 0 < m ∨ L = []
      · have HN := Aside0.mk (far_step HF.out hc)
        by_cases h0 : 0 < m
        · have t1 : (m : Int).tmod 10 = ((m % 10 : Nat) : Int) := by rw [Int.tmod_eq_emod_of_nonneg (by omega)]; omega
          have t2 : (m : Int).tdiv 10 = ((m / 10 : Nat) : Int) := by rw [Int.tdiv_eq_ediv_of_nonneg (by omega)]; omega
          have d2 : decide (0 < (m : Int)) = true := decide_eq_true (by omega)
          have d3 : decide (0 < m) = true := decide_eq_true h0
          have h2 := hcv (48 + (m : Int) % 10) (by omega) (by omega)
          have e2 : (48 + (m : Int) % 10).toNat = 48 + m % 10 := by omega
          rw [e2] at h2
          generalize UInt8.ofNat (48 + m % 10) = c at h2 HN
          have hc1 : ¬ (9223372036854775807 < 1 + L.length) := by omega
          clear hcv HF
          go_wp2_with fail
          go_roundw
          case rel => exact ⟨c :: L, m / 10, by rw [ByteArray.mk_append_mk]; rfl, congrArg (Value.int IntKind.i64) (by omega), by omega, by rw [List.length_cons]; omega, HN, ⟨HB2.out _⟩⟩
          case measure =>
            simp [intOf, Lib.strSize_string, ByteArray.size_append', ByteArray.size_mk']
            omega
        · have hLn : L = [] := hc.resolve_left h0
          subst hLn
          obtain rfl : m = 0 := by omega
          have h2 := hcv 48 (by omega) (by omega)
          clear hcv HF
          go_wp2_with fail
          go_roundw
          case rel => exact ⟨[48], 0, rfl, rfl, by omega, by simp, HN, ⟨HB2.out _⟩⟩
          case measure => simp [intOf, Lib.strSize_string, ByteArray.size_append', ByteArray.size_mk']
      · have HE := Aside0.mk (far_end HF.out hc)
        have hm0 : m = 0 := by omega
        have hLn : L ≠ [] := fun h => hc (.inr h)
        subst hm0
        have d5 : (L == []) = false := beq_eq_false_iff_ne.2 hLn
        have d6 : L.isEmpty = false := by
          cases L with
          | nil => exact absurd rfl hLn
          | cons a b => rfl
        have hc2 : ¬ (9223372036854775807 < 1 + L.length) := by omega
        clear hcv HF hc HB2
        go_wp2_with fail
        go_ret
        refine ⟨?_, HB.out⟩
        rw [HI.out, ← HE.out]
        first | rfl | (simp [ByteArray.mk_append_mk]; done) | (congr 2; rw [show (⟨#[45]⟩ : ByteArray) = ⟨[45].toArray⟩ from rfl, ba_app]; rfl)
/-- digits. -/
theorem digits_calls (n : Int) (h0 : -1000000 < n) (h1 : n < 1000000) (w : World) : Calls Tryd.prog 29 #[.int .i64 n] w fun e w' => e = .returned (.string ⟨(Lib.itoa n).toArray⟩) ∧ Below w.heap.size w w' := by
  by_cases h : n < 0
  · exact digits_abs n n.natAbs (by omega) true (by rw [if_pos rfl]; omega) w
  · exact digits_abs n n.natAbs (by omega) false (by rw [if_neg (by decide)]; omega) w
end Go.Proofs.YtjaeligjcgjamaaDoor.DRefDig
