/- word.Get (walk: began as the printed text of chapter 07) and its number. -/
import Derived.Test.YtiinflgoflkomaaLoadPut
namespace Go.Proofs.Ytiinflgoflkomaa.LoadGet
open Go.RowKit Go.Proofs.YtiinflgoflkomaaW.PrintWords Go.Proofs.YtiinflgoflkomaaW.PrintLast Go.Proofs.YtiinflgoflkomaaW.PrintMore Go.Proofs.Ytiinflgoflkomaa.PLoadChecks Go.Proofs.Ytiinflgoflkomaa.Aid
attribute [local go_sem] max2_int min2_int max_two min_two max_three min_three max_four min_four
set_option linter.unusedVariables false
set_option linter.unusedSimpArgs false
/-- The number of bytes, the lowest first. -/
def val : List Int → Int
  | [] => 0
  | x :: t => x + 256 * val t
/-- The lowest m bytes of a number. -/
def bs (n : Int) (m : Nat) : List Int := (List.range m).map fun i => n / 256 ^ i % 256
theorem bs_succ (n : Int) (m : Nat) : bs n (m + 1) = bs n m ++ [n / 256 ^ m % 256] := by
  unfold bs
  rw [List.range_succ, List.map_append]
  rfl
theorem bs_length (n : Int) (m : Nat) : (bs n m).length = m := by simp [bs]
theorem val_bound : ∀ (l : List Int), (∀ x ∈ l, 0 ≤ x ∧ x < 256) → 0 ≤ val l ∧ val l < 256 ^ l.length
  | [], _ => by simp [val]
  | x :: t, h => by
    have hx := h x (by simp)
    have ht := val_bound t fun y hy => h y (by simp [hy])
    simp only [val, List.length_cons, Int.pow_succ]
    omega
theorem val_snoc : ∀ (l : List Int) (x : Int), val (l ++ [x]) = val l + x * 256 ^ l.length
  | [], x => by simp [val]
  | y :: t, x => by
    simp only [List.cons_append, val, val_snoc t x, List.length_cons, Int.pow_succ]
    rw [Int.mul_add, ← Int.mul_assoc x, Int.mul_comm _ (256 : Int)]
    omega
theorem take_snoc' (l : List Int) (i : Nat) (h : i < l.length) : l.take (i + 1) = l.take i ++ [rd l (i : Int)] := by
  rw [List.take_succ_eq_append_getElem h]
  simp [rd, h]
theorem drop_cons' (l : List Int) (i : Nat) (h : i < l.length) : l.drop i = rd l (i : Int) :: l.drop (i + 1) := by
  rw [List.drop_eq_getElem_cons h]
  simp [rd, h]
theorem rd_mem (l : List Int) (i : Nat) (h : i < l.length) : rd l (i : Int) ∈ l := by
  have : rd l (i : Int) = l[i] := by simp [rd, h]
  rw [this]
  exact List.getElem_mem h
theorem or_join {x b : Int} {i : Nat} (hi : i ≤ 7) (h0 : 0 ≤ x) (h1 : x < 256 ^ i) (b0 : 0 ≤ b) (b1 : b < 256) :
    Go.bits .or .u64 x (shl .u64 (IntKind.u64.wrap b) (wrap64 (8 * (i : Int)))) = x + b * 256 ^ i := by
  have hp : (0 : Int) < 256 ^ i := Int.pow_pos (by decide)
  have hle : (256 : Int) ^ i ≤ 72057594037927936 := by
    have : 256 ^ i ≤ 256 ^ 7 := Nat.pow_le_pow_right (n := 256) (by decide) hi
    have e : ((256 ^ i : Nat) : Int) = (256 : Int) ^ i := by rw [Int.natCast_pow]; rfl
    rw [← e]
    have : 256 ^ i ≤ 72057594037927936 := this
    omega
  have hb : b * 256 ^ i ≤ 255 * 256 ^ i := Int.mul_le_mul_of_nonneg_right (by omega) (by omega)
  have hb0 : 0 ≤ b * 256 ^ i := Int.mul_nonneg b0 (by omega)
  have e1 : shl .u64 (IntKind.u64.wrap b) (wrap64 (8 * (i : Int))) = b * 256 ^ i := by
    unfold shl
    have em : min (wrap64 (8 * (i : Int))).toNat IntKind.u64.bits = 8 * i := by
      rw [w64 (by omega) (by omega)]
      simp only [IntKind.bits]
      omega
    have ep : (2 : Int) ^ (8 * i) = 256 ^ i := by
      rw [Int.pow_mul]
      rfl
    rw [em, ep, u64w, u64w, Int.emod_eq_of_lt (a := b) (by omega) (by omega), Int.emod_eq_of_lt (by omega) (by omega)]
  rw [e1, u64_or _ _ h0 (by omega) hb0 (by omega)]
  have e2 : (b * 256 ^ i).toNat = b.toNat * 256 ^ i := by
    have : b = (b.toNat : Int) := by omega
    have e : ((256 ^ i : Nat) : Int) = (256 : Int) ^ i := by rw [Int.natCast_pow]; rfl
    rw [this, ← e, ← Int.natCast_mul, Int.toNat_natCast, Int.toNat_natCast]
  have e3 : 256 ^ i = 2 ^ (8 * i) := by
    rw [Nat.pow_mul]
  have hx : x.toNat < 2 ^ (8 * i) := by
    rw [← e3]
    have e : ((256 ^ i : Nat) : Int) = (256 : Int) ^ i := by rw [Int.natCast_pow]; rfl
    omega
  rw [Nat.or_comm, nat_join (8 * i) _ _ (by rw [e2, e3, Nat.mul_mod_left]) hx]
  omega
/-! ### word_Get: function 30 -/
def word_Get.l0 : Nat → List Int → Int → Int → Int → Option (Int)
  | 0, _, _, _, _ => none
  | k + 1, x0, x3, x7, x8 => if x8 < x7 then (if 0 ≤ x8 then (if x8 < (x0.length : Int) then (if 0 ≤ (wrap64 (8 * x8)) then (word_Get.l0 k x0 (Go.bits .or .u64 x3 (shl .u64 (IntKind.u64.wrap (rd x0 x8)) (wrap64 (8 * x8)))) x7 (wrap64 (x8 + 1))) else (none)) else (none)) else (none)) else (some x3)
def word_Get.f (k : Nat) (l0 : List Int) : Option (Int) := word_Get.l0 k l0 0 (mn (l0.length : Int) 8) 0
theorem word_Get.mono_l : ∀ k, (∀ y0 y1 y2 y3, LeO (word_Get.l0 k y0 y1 y2 y3) (word_Get.l0 (k + 1) y0 y1 y2 y3))
  | 0 => fun _ _ _ _ r h => by simp [word_Get.l0] at h
  | k + 1 => by
    have ih0 := word_Get.mono_l k
    · intro y0 y1 y2 y3
      unfold word_Get.l0
      repeat' first
      | (with_reducible exact ih0 _ _ _ _)
      | (with_reducible exact LeO.refl _)
      | (with_reducible exact LeO.none _)
      | (with_reducible refine LeO.ite ?_ ?_)
      | (with_reducible refine LeO.bind ?_ (fun _ => ?_))
      | exact ih0 _ _ _ _
      | exact LeO.none _
      | refine LeO.ite ?_ ?_
      | refine LeO.bind ?_ (fun _ => ?_)
theorem word_Get.mono : ∀ a0 k, LeO (word_Get.f k a0) (word_Get.f (k + 1) a0) := by
  intro a0 k
  have ih0 := word_Get.mono_l k
  unfold word_Get.f
  repeat' first
      | (with_reducible exact ih0 _ _ _ _)
      | (with_reducible exact LeO.refl _)
      | (with_reducible exact LeO.none _)
      | (with_reducible refine LeO.ite ?_ ?_)
      | (with_reducible refine LeO.bind ?_ (fun _ => ?_))
      | exact ih0 _ _ _ _
      | exact LeO.none _
      | refine LeO.ite ?_ ?_
      | refine LeO.bind ?_ (fun _ => ?_)
set_option maxHeartbeats 8000000 in
set_option maxRecDepth 100000 in
theorem word_Get.calls (k : Nat) (A0 : Option Addr) (c0 : Nat) (l0 : List Int) (r : Int) (w : World) (hr0 : Kd.C (Kd.int .u8) w A0 l0.length l0) (hc0 : l0.length ≤ c0) (h : word_Get.f k l0 = some r) :
    Calls Try.prog 30 #[.slice A0 l0.length c0] w fun e w' => e = .returned (.int .u64 r) ∧ Below w.heap.size w w' := by
  have HR0 := Aside0.mk hr0
  have HC0 := Aside0.mk hc0
  clear hr0 hc0
  have HB := Aside0.mk (Below.refl w.heap.size w)
  have H : (word_Get.l0 k l0 0 (mn (l0.length : Int) 8) 0) = some r := h
  clear h
  obtain ⟨ji2, hji2⟩ : ∃ j_ : Int, (mn (l0.length : Int) 8) = j_ := ⟨_, rfl⟩
  replace H : (word_Get.l0 k l0 0 ji2 0) = some r := by first | (rw [hji2] at H; exact H) | (simp only [hji2] at H ⊢; exact H)
  (try (have hji2h : ji2 ≤ 8 := by (rw [← hji2]; unfold mn; (repeat' split) <;> omega)))
  (try (have hji2g : ji2 ≤ 64 := by omega))
  (try (have hji2l : 0 ≤ ji2 := by (rw [← hji2]; unfold mn; (repeat' split) <;> omega)))
  (try (have hji2m : 0 ≤ ji2 := by omega))
  have hji2_ : (if 8 < (l0.length : Int) then 8 else (l0.length : Int)) = ji2 := hji2
  have H' := Aside0.mk H
  clear H
  go_enter Try.func30, Try.ntmps30
  go_wp2
  go_loopg [3, 8] k (fun kq v3 v8 w' => ∃ (x3_1 : Int) (x8_1 : Int), v3 = .int .u64 x3_1 ∧ v8 = .int .i64 x8_1 ∧ Aside0 (word_Get.l0 kq l0 x3_1 ji2 x8_1 = some r) ∧ Aside0 (kq ≤ k) ∧ Aside0 (Below w.heap.size w w'))
  case atStart => exact ⟨(0), (0), (by first | rfl | (simp; done) | (simp [*]; done)), (by first | rfl | (simp; done) | (simp [*]; done)), H', ⟨Nat.le_refl _⟩, ⟨by repeat (first | (with_reducible first | exact HB.out | apply below_alloc | apply pw_below_drewN | apply below_drew1) | exact HB.out)⟩⟩
  case round =>
    clear H'
    try clear p2
    obtain ⟨x3_1, x8_1, rfl, rfl, HA, HK1, HB⟩ := hrel
    cases gk with
    | zero => exact absurd HA.out (by simp [word_Get.l0])
    | succ k1 =>
      have H := HA.out
      clear HA
      simp only [word_Get.l0] at H
      by_cases c3 : x8_1 < ji2
      · rw [if_pos c3] at H
        have c3b0 : decide (x8_1 < ji2) = true := decide_eq_true c3
        clear c3
        by_cases c4 : 0 ≤ x8_1
        · rw [if_pos c4] at H
          have c4b0 : decide (0 ≤ x8_1) = true := decide_eq_true c4
          clear c4
          by_cases c5 : x8_1 < (l0.length : Int)
          · rw [if_pos c5] at H
            have c5b0 : decide (x8_1 < (l0.length : Int)) = true := decide_eq_true c5
            clear c5
            obtain ⟨ji6, hji6⟩ : ∃ j_ : Int, (wrap64 (8 * x8_1)) = j_ := ⟨_, rfl⟩
            replace H : (if 0 ≤ (ji6) then (word_Get.l0 k1 l0 (Go.bits .or .u64 x3_1 (shl .u64 (IntKind.u64.wrap (rd l0 x8_1)) (ji6))) ji2 (wrap64 (x8_1 + 1))) else (none)) = some r := by first | (rw [hji6] at H; exact H) | (simp only [hji6] at H ⊢; exact H)
            have hji6w : (IntKind.i64.wrap (8 * x8_1)) = ji6 := (i64_w _).trans hji6
            by_cases c7 : 0 ≤ (ji6)
            · rw [if_pos c7] at H
              have c7b0 := eq_true c7
              have c7b1 : decide (0 ≤ (ji6)) = true := decide_eq_true c7
              clear c7
              obtain ⟨ji8, hji8⟩ : ∃ j_ : Int, (shl .u64 (IntKind.u64.wrap (rd l0 x8_1)) (ji6)) = j_ := ⟨_, rfl⟩
              replace H : (word_Get.l0 k1 l0 (Go.bits .or .u64 x3_1 (ji8)) ji2 (wrap64 (x8_1 + 1))) = some r := by first | (rw [hji8] at H; exact H) | (simp only [hji8] at H ⊢; exact H)
              have hji8_ : (IntKind.u64.wrap ((IntKind.u64.wrap (rd l0 x8_1)) * 2 ^ min (ji6).toNat 64)) = ji8 := hji8
              have hji8z : (ji6) ≤ 64 → (IntKind.u64.wrap ((IntKind.u64.wrap (rd l0 x8_1)) * 2 ^ (ji6).toNat)) = ji8 := shl_small hji8
              have H' := Aside0.mk H
              clear H
              have p101 : 0 ≤ (x8_1 : Int) := of_decide_eq_true (by first | (with_reducible assumption) | assumption)
              have q101 : x8_1 < (l0.length : Int) := of_decide_eq_true (by first | (with_reducible assumption) | assumption)
              obtain ⟨ad101, e101, hx101_0⟩ := Kd.at_int HR0.out x8_1 p101 q101
              cases e101
              replace hx101_0 := (HB.out.cell (World.block_lt_of_cell? w _ hx101_0)).trans hx101_0
              replace p101 := eq_true p101
              replace q101 := eq_true q101
              go_wp2
              go_roundg k1
              case measure => have := HK1.out; omega
              case rel => exact ⟨(Go.bits .or .u64 x3_1 (ji8)), (wrap64 (x8_1 + 1)), (by first | rfl | (simp; done) | (simp only [← hji8] <;> (first | rfl | simp)) | (simp [*]; done)), (by first | rfl | (simp; done) | (simp [*]; done)), H', ⟨by have := HK1.out; omega⟩, ⟨by repeat (first | (with_reducible first | exact HB.out | apply below_alloc | apply pw_below_drewN | apply below_drew1) | exact HB.out)⟩⟩
            · rw [if_neg c7] at H
              exact absurd H (by simp)
          · rw [if_neg c5] at H
            exact absurd H (by simp)
        · rw [if_neg c4] at H
          exact absurd H (by simp)
      · rw [if_neg c3] at H
        have c3b0 : decide (x8_1 < ji2) = false := decide_eq_false c3
        clear c3
        obtain rfl := Option.some.inj H
        go_wp2
        go_ret
        exact ⟨by first | rfl | (simp [errW_none, errW_some] <;> rfl) | (simp only [← hji2]; first | rfl | (simp [errW_none, errW_some] <;> rfl)) | (simp [*, errW_none, errW_some] <;> rfl), by repeat (first | (with_reducible first | exact HB.out | apply below_alloc | apply pw_below_drewN | apply below_drew1) | exact HB.out)⟩

theorem get_prog {l : List Int} (hl : ∀ x ∈ l, 0 ≤ x ∧ x < 256) {m : Nat} (hm : m ≤ 8) (hml : m ≤ l.length) (d : Nat) : ∀ (k i : Nat), i + d = m → d < k →
    word_Get.l0 k l (val (l.take i)) (m : Int) (i : Int) = some (val (l.take m)) := by
  induction d with
  | zero =>
    intro k i hi hk
    obtain ⟨k, rfl⟩ : ∃ j, k = j + 1 := ⟨k - 1, by omega⟩
    simp only [word_Get.l0]
    rw [if_neg (by omega)]
    congr
  | succ d ih =>
    intro k i hi hk
    obtain ⟨k, rfl⟩ : ∃ j, k = j + 1 := ⟨k - 1, by omega⟩
    simp only [word_Get.l0]
    have hb := hl _ (rd_mem l i (by omega))
    have hv := val_bound (l.take i) fun x hx => hl x (List.mem_of_mem_take hx)
    have hlen : (l.take i).length = i := by simp; omega
    rw [hlen] at hv
    rw [if_pos (by omega), if_pos (by omega), if_pos (by omega), if_pos (by rw [w64 (by omega) (by omega)]; omega), or_join (by omega) hv.1 hv.2 hb.1 hb.2, w64 (x := (i : Int) + 1) (by omega) (by omega)]
    have e := val_snoc (l.take i) (rd l (i : Int))
    rw [← take_snoc' l i (by omega), hlen] at e
    rw [← e]
    exact ih k (i + 1) (by omega) (by omega)
theorem get_f {l : List Int} (hl : ∀ x ∈ l, 0 ≤ x ∧ x < 256) (hn : l.length ≤ 8) : word_Get.f 10 l = some (val l) := by
  unfold word_Get.f
  have : mn (l.length : Int) 8 = (l.length : Int) := by
    unfold mn
    rw [if_neg (by omega)]
  have h := get_prog hl hn (Nat.le_refl _) l.length 10 0 (by omega) (by omega)
  rw [List.take_of_length_le (Nat.le_refl _)] at h
  rw [this]
  exact h
theorem get_calls (A : Option Addr) (c : Nat) (l : List Int) (w : World) (hr : (Kd.int .u8).C w A l.length l) (hc : l.length ≤ c) (hl : ∀ x ∈ l, 0 ≤ x ∧ x < 256) (hn : l.length ≤ 8) :
    Calls Try.prog 30 #[.slice A l.length c] w fun e w' => e = .returned (.int .u64 (val l)) ∧ Below w.heap.size w w' := word_Get.calls 10 A c l _ w hr hc (get_f hl hn)
theorem val_le : ∀ (n : Nat) (x : Int), 0 ≤ x → x < 256 ^ n → val (Go.Proofs.Ytiinflgoflkomaa.LoadF.le x n) = x
  | 0, x, h0, h1 => by
    simp [Go.Proofs.Ytiinflgoflkomaa.LoadF.le, val]
    simp at h1
    omega
  | n + 1, x, h0, h1 => by
    have hp : (0 : Int) < 256 ^ n := Int.pow_pos (by decide)
    rw [Go.Proofs.Ytiinflgoflkomaa.LoadF.le, val, val_le n (x / 256) (by omega) (by rw [Int.pow_succ] at h1; omega)]
    omega
end Go.Proofs.Ytiinflgoflkomaa.LoadGet
