/- The text of a float, what a text is taken for, and that the one goes back over the other. Plain Lean. -/
import Derived.Lib.ItoaMem
import Derived.Lib.Repeat
import Derived.Test.YtjaeligjcgjamaaDoorDUnhexAny
import Derived.Test.YtjaeligjcgjamaaDoorDWorks
namespace Go.Proofs.YtjaeligjcgjamaaDoor.DTxt
open Go.Proofs.YtjaeligjcgjamaaDoor.FloatPlain Go.Proofs.YtjaeligjcgjamaaDoor.DHex Go.Proofs.YtjaeligjcgjamaaDoor.DUnhex Go.Proofs.YtjaeligjcgjamaaDoor.DUnhexAny Go.Proofs.YtjaeligjcgjamaaDoor.DWorks
set_option linter.unusedVariables false
instance (l : List UInt8) : Decidable (AllHex l) := List.decidableBAll ..
/-- The thirteen hexadecimal digits of a fraction. -/
def h13 (f : Nat) : List UInt8 := (List.range 13).map fun k => UInt8.ofNat (hd (f / 16 ^ (12 - k) % 16))
def frac (f : Nat) : List UInt8 := if f = 0 then [] else 46 :: Lib.trimRightB (h13 f) 48
def expo (E : Nat) : Int := if E = 0 then -1022 else (E : Int) - 1023
def lead (E : Nat) : UInt8 := if E = 0 then 48 else 49
def body (E f : Nat) : List UInt8 := [48, 120, lead E] ++ frac f ++ [112] ++ Lib.itoa (expo E)
def mag (p : Nat) : List UInt8 := if p = 9218868437227405312 then [105, 110, 102] else if p = 0 then [48] else body (p / 4503599627370496) (p % 4503599627370496)
/-- The text of a float. -/
def txt (a : Nat) : List UInt8 := if 9218868437227405312 < rg a then [110, 97, 110] else (if 9223372036854775808 ≤ a then [45] else []) ++ mag (rg a)
/-- A float that is its own canonical form. -/
def Can (a : Nat) : Prop := a < 18446744073709551616 ∧ (9218868437227405312 < rg a → a = 9221120237041090560)
theorem h13_length (f : Nat) : (h13 f).length = 13 := by simp [h13]
theorem hd_all : ∀ d : Fin 16, hexv (UInt8.ofNat (hd d.val)).toNat = d.val ∧ UInt8.ofNat (hd d.val) ≠ 112 ∧ UInt8.ofNat (hd d.val) ≠ 46 ∧ (UInt8.ofNat (hd d.val) = 48 → d.val = 0) := by decide
theorem hd_val (d : Nat) (h : d < 16) : hexv (UInt8.ofNat (hd d)).toNat = d := (hd_all ⟨d, h⟩).1
theorem h13_get (f k : Nat) (h : k < (h13 f).length) : (h13 f)[k] = UInt8.ofNat (hd (f / 16 ^ (12 - k) % 16)) := by simp [h13]
theorem h13_mem {f : Nat} {c : UInt8} (h : c ∈ h13 f) : hexv c.toNat < 16 ∧ c ≠ 112 ∧ c ≠ 46 := by
  obtain ⟨k, hk, rfl⟩ := List.mem_map.1 h
  have hm : f / 16 ^ (12 - k) % 16 < 16 := Nat.mod_lt _ (by decide)
  have := hd_all ⟨_, hm⟩
  exact ⟨by rw [this.1]; exact hm, this.2.1, this.2.2.1⟩
theorem h13_take (f : Nat) (hf : f < 4503599627370496) : ∀ k, k ≤ 13 → hval ((h13 f).take k) = f / 16 ^ (13 - k)
  | 0, _ => by
    rw [Nat.div_eq_of_lt (by simpa using hf)]
    rfl
  | k + 1, h => by
    have hl : k < (h13 f).length := by rw [h13_length]; omega
    rw [hval_step _ _ hl, h13_take f hf k (by omega), h13_get, hd_val _ (Nat.mod_lt _ (by decide))]
    have e : 13 - k = (12 - k) + 1 := by omega
    have e2 : 13 - (k + 1) = 12 - k := by omega
    rw [e, e2, Nat.pow_succ, ← Nat.div_div_eq_div_mul]
    omega
theorem hval_h13 (f : Nat) (hf : f < 4503599627370496) : hval (h13 f) = f := by
  have := h13_take f hf 13 (Nat.le_refl _)
  rw [List.take_of_length_le (by rw [h13_length]; exact Nat.le_refl _)] at this
  rw [this]
  simp
theorem hval_zero (l : List UInt8) : hval (48 :: l) = hval l := rfl
/-- A list and what it is trimmed to. -/
theorem trim_back (l : List UInt8) (c : UInt8) : Lib.trimRightB l c ++ List.replicate (l.length - (Lib.trimRightB l c).length) c = l := by
  unfold Lib.trimRightB
  have key : ∀ r : List UInt8, List.replicate (r.length - (r.dropWhile (· == c)).length) c ++ r.dropWhile (· == c) = r := by
    intro r
    induction r with
    | nil => rfl
    | cons x r ih =>
      by_cases h : (x == c) = true
      · rw [List.dropWhile_cons_of_pos (p := (· == c)) h]
        have hx : x = c := by simpa using h
        have hle : (r.dropWhile (· == c)).length ≤ r.length := (List.dropWhile_sublist _).length_le
        have e : (x :: r).length - (r.dropWhile (· == c)).length = (r.length - (r.dropWhile (· == c)).length) + 1 := by
          rw [List.length_cons]
          omega
        rw [e, List.replicate_succ, List.cons_append, ih, hx]
      · rw [List.dropWhile_cons_of_neg (p := (· == c)) h]
        simp
  have h2 := congrArg List.reverse (key l.reverse)
  rw [List.reverse_append, List.reverse_reverse, List.reverse_replicate, List.length_reverse] at h2
  rw [List.length_reverse]
  exact h2
theorem trim_le (l : List UInt8) (c : UInt8) : (Lib.trimRightB l c).length ≤ l.length := by
  unfold Lib.trimRightB
  rw [List.length_reverse]
  exact Nat.le_trans ((List.dropWhile_sublist _).length_le) (by simp)
theorem trim_mem {l : List UInt8} {c x : UInt8} (h : x ∈ Lib.trimRightB l c) : x ∈ l := by
  rw [← trim_back l c]
  exact List.mem_append_left _ h
theorem cutL_hit (p q : List UInt8) (c : UInt8) (h : ∀ x ∈ p, x ≠ c) : cutL (p ++ c :: q) c = (p, q, true) := by
  have hi : ∀ p : List UInt8, (∀ x ∈ p, x ≠ c) → Lib.indexByte (p ++ c :: q) c = (p.length : Int) := by
    intro p
    induction p with
    | nil =>
      intro _
      show (if (c == c) = true then (0 : Int) else _) = _
      rw [if_pos (by simp)]
      rfl
    | cons x p ih =>
      intro hp
      have hx : ¬ (x == c) = true := by simpa using hp x (List.mem_cons_self ..)
      have h2 := ih (fun y hy => hp y (List.mem_cons_of_mem _ hy))
      show (if (x == c) = true then (0 : Int) else if (Lib.indexByte (p ++ c :: q) c == -1) = true then -1 else Lib.indexByte (p ++ c :: q) c + 1) = _
      rw [if_neg hx, h2, if_neg (by simp), List.length_cons]
      omega
  unfold cutL
  rw [hi p h, if_pos (by omega)]
  simp
theorem cutL_miss (p : List UInt8) (c : UInt8) (h : ∀ x ∈ p, x ≠ c) : cutL p c = (p, [], false) := by
  have hi : ∀ p : List UInt8, (∀ x ∈ p, x ≠ c) → Lib.indexByte p c = -1 := by
    intro p
    induction p with
    | nil => intro _; rfl
    | cons x p ih =>
      intro hp
      have hx : ¬ (x == c) = true := by simpa using hp x (List.mem_cons_self ..)
      have h2 := ih (fun y hy => hp y (List.mem_cons_of_mem _ hy))
      show (if (x == c) = true then (0 : Int) else if (Lib.indexByte p c == -1) = true then -1 else Lib.indexByte p c + 1) = _
      rw [if_neg hx, h2, if_pos (by decide)]
  unfold cutL
  rw [hi p h, if_neg (by decide)]
/-- Decimal digits and back. -/
theorem dec_mem : ∀ (u : Nat) (c : UInt8), c ∈ Lib.decDigits u → 48 ≤ c.toNat ∧ c.toNat ≤ 57
  | u, c, h => by
    rw [Lib.decDigits] at h
    split at h
    · rename_i hu
      rw [List.mem_singleton.1 h, UInt8.toNat_ofNat']
      omega
    · rename_i hu
      rcases List.mem_append.1 h with h | h
      · exact dec_mem (u / 10) c h
      · rw [List.mem_singleton.1 h, UInt8.toNat_ofNat']
        omega
  termination_by u => u
theorem parse_snoc (acc : Nat) : ∀ (l : List UInt8) (v : Nat) (c : UInt8), Lib.parseUint10 acc l = .ok v → 48 ≤ c.toNat → c.toNat ≤ 57 → v < 1000000 → Lib.parseUint10 acc (l ++ [c]) = .ok (v * 10 + (c.toNat - 48))
  | [], v, c, h, h1, h2, hv => by
    have : acc = v := by
      simp only [Lib.parseUint10] at h
      injection h
    subst this
    simp only [List.nil_append, Lib.parseUint10]
    rw [if_pos ⟨h1, h2⟩, if_neg (by omega), if_neg (by omega)]
  | d :: l, v, c, h, h1, h2, hv => by
    simp only [List.cons_append, Lib.parseUint10] at h ⊢
    split at h
    · rename_i hd
      rw [if_pos hd]
      split at h
      · cases h
      · rename_i ha
        rw [if_neg ha]
        split at h
        · cases h
        · rename_i hb
          rw [if_neg hb]
          exact parse_snoc _ l v c h h1 h2 hv
    · cases h
theorem parse_dec : ∀ u : Nat, u < 1000000 → Lib.parseUint10 0 (Lib.decDigits u) = .ok u
  | u, h => by
    rw [Lib.decDigits]
    split
    · rename_i hu
      have e : (UInt8.ofNat (48 + u)).toNat = 48 + u := by
        rw [UInt8.toNat_ofNat']
        omega
      simp only [Lib.parseUint10]
      rw [e, if_pos (by omega), if_neg (by decide), if_neg (by omega)]
      congr 1
      omega
    · rename_i hu
      have e : (UInt8.ofNat (48 + u % 10)).toNat = 48 + u % 10 := by
        rw [UInt8.toNat_ofNat']
        omega
      rw [parse_snoc 0 _ (u / 10) _ (parse_dec (u / 10) (by omega)) (by omega) (by omega) (by omega), e]
      congr 1
      omega
  termination_by u => u
theorem dec_ne (u : Nat) : Lib.decDigits u ≠ [] := by
  rw [Lib.decDigits]
  split <;> simp
theorem atoi_dec (u : Nat) (h : u < 1000000) : Lib.atoiAll (Lib.decDigits u) = .ok (u : Int) := by
  cases e : Lib.decDigits u with
  | nil => exact absurd e (dec_ne u)
  | cons c r =>
    have hc := dec_mem u c (by rw [e]; exact List.mem_cons_self ..)
    have hp := parse_dec u h
    rw [e] at hp
    unfold Lib.atoiAll Lib.parseMag
    simp only
    rw [if_neg (show ¬ (c.toNat = 43 ∨ c.toNat = 45) by omega), if_neg (by simp), hp]
    simp only
    rw [if_neg (by omega), if_neg (by omega), if_neg (by omega)]
theorem atoi_neg (u : Nat) (h : u < 1000000) : Lib.atoiAll (45 :: Lib.decDigits u) = .ok (-(u : Int)) := by
  have hp := parse_dec u h
  unfold Lib.atoiAll Lib.parseMag
  simp only
  rw [if_pos (show ((45 : UInt8).toNat = 43 ∨ (45 : UInt8).toNat = 45) by decide), if_neg (dec_ne u), hp]
  simp only
  rw [if_neg (by simp), if_neg (by omega), if_pos (by decide)]
theorem atoi_itoa (e : Int) (h0 : -1000000 < e) (h1 : e < 1000000) : Lib.atoiAll (Lib.itoa e) = .ok e := by
  unfold Lib.itoa
  split
  · rw [atoi_neg _ (by omega)]
    congr 1
    omega
  · rw [atoi_dec _ (by omega)]
    congr 1
    omega
theorem frac_mem {f : Nat} {c : UInt8} (h : c ∈ frac f) : c ≠ 112 := by
  unfold frac at h
  split at h
  · simp at h
  · rcases List.mem_cons.1 h with rfl | h
    · decide
    · exact (h13_mem (trim_mem h)).2.1
/-- What real.number reads. -/
def numL (l : List UInt8) : Option Nat :=
  if (cutL l 112).2.2 = true then
    match Lib.atoiAll (cutL l 112).2.1 with
    | .ok e => if (cutL (cutL l 112).1 46).2.1.length ≤ 13 ∧ -1022 ≤ e ∧ e ≤ 1023 ∧ AllHex (cutL (cutL l 112).1 46).2.1 then
        some (if (cutL (cutL l 112).1 46).1 = [48] then hval ((cutL (cutL l 112).1 46).2.1 ++ List.replicate (13 - (cutL (cutL l 112).1 46).2.1.length) 48) else (e + 1023).toNat * 4503599627370496 + hval ((cutL (cutL l 112).1 46).2.1 ++ List.replicate (13 - (cutL (cutL l 112).1 46).2.1.length) 48))
      else none
    | _ => none
  else none
theorem num_body (E f : Nat) (hE : E ≤ 2046) (hf : f < 4503599627370496) : numL ([lead E] ++ frac f ++ [112] ++ Lib.itoa (expo E)) = some (E * 4503599627370496 + f) := by
  have hl : lead E ≠ 112 ∧ lead E ≠ 46 := by
    unfold lead
    split <;> decide
  have c1 : cutL ([lead E] ++ frac f ++ [112] ++ Lib.itoa (expo E)) 112 = ([lead E] ++ frac f, Lib.itoa (expo E), true) := by
    rw [List.append_assoc ([lead E] ++ frac f)]
    refine cutL_hit _ _ _ fun x hx => ?_
    rcases List.mem_append.1 hx with hx | hx
    · rw [List.mem_singleton.1 hx]
      exact hl.1
    · exact frac_mem hx
  have hx0 : -1022 ≤ expo E ∧ expo E ≤ 1023 := by
    unfold expo
    split <;> omega
  have a1 := atoi_itoa (expo E) (by omega) (by omega)
  have c2 : ∃ T b, cutL ([lead E] ++ frac f) 46 = ([lead E], T, b) ∧ T.length ≤ 13 ∧ AllHex T ∧ hval (T ++ List.replicate (13 - T.length) 48) = f := by
    unfold frac
    split
    · rename_i h0
      subst h0
      refine ⟨[], false, ?_, by decide, fun c hc => by simp at hc, by decide⟩
      rw [List.append_nil]
      exact cutL_miss _ _ (fun x hx => by rw [List.mem_singleton.1 hx]; exact hl.2)
    · refine ⟨Lib.trimRightB (h13 f) 48, true, cutL_hit _ _ _ (fun x hx => by rw [List.mem_singleton.1 hx]; exact hl.2), ?_, fun c hc => (h13_mem (trim_mem hc)).1, ?_⟩
      · have := trim_le (h13 f) 48
        rw [h13_length] at this
        exact this
      · have := trim_back (h13 f) 48
        rw [h13_length] at this
        rw [this]
        exact hval_h13 f hf
  obtain ⟨T, b, c2, hT, hX, hv⟩ := c2
  unfold numL
  rw [c1]
  simp only
  rw [a1, c2]
  simp only
  rw [if_pos trivial, if_pos ⟨hT, hx0.1, hx0.2, hX⟩, hv]
  unfold lead expo
  by_cases h0 : E = 0
  · subst h0
    simp
  · have e1 : ((E : Int) - 1023 + 1023).toNat = E := by omega
    rw [if_neg h0, if_neg h0, if_neg (by decide), e1]
/-- What real.Parse takes a text for, ahead of its look back. -/
def mcand (r : List UInt8) : Option Nat := if r = [105, 110, 102] then some 9218868437227405312 else if r = [48] then some 0 else if Lib.hasPrefix r [48, 120] = true then numL (Lib.trimPrefix r [48, 120]) else none
def cand (s : List UInt8) : Option Nat := if s = [110, 97, 110] then some 9221120237041090560 else (mcand (Lib.trimPrefix s [45])).map fun m => if Lib.hasPrefix s [45] = true then m + 9223372036854775808 else m
theorem mag_cand (p : Nat) (h : p ≤ 9218868437227405312) : mcand (mag p) = some p ∧ Lib.hasPrefix (mag p) [45] = false ∧ mag p ≠ [110, 97, 110] := by
  unfold mag
  split
  · rename_i h0
    rw [h0]
    exact ⟨by unfold mcand; rw [if_pos rfl], by decide, by decide⟩
  · split
    · rename_i h0
      subst h0
      decide
    · rename_i h1 h2
      have e : body (p / 4503599627370496) (p % 4503599627370496) = 48 :: 120 :: ([lead (p / 4503599627370496)] ++ frac (p % 4503599627370496) ++ [112] ++ Lib.itoa (expo (p / 4503599627370496))) := rfl
      have hn := num_body (p / 4503599627370496) (p % 4503599627370496) (by omega) (by omega)
      rw [e]
      generalize [lead (p / 4503599627370496)] ++ frac (p % 4503599627370496) ++ [112] ++ Lib.itoa (expo (p / 4503599627370496)) = R at hn ⊢
      have hp : Lib.hasPrefix (48 :: 120 :: R) [48, 120] = true := by simp [Lib.hasPrefix]
      refine ⟨?_, by rfl, by simp⟩
      unfold mcand
      rw [if_neg (by simp), if_neg (by simp), if_pos hp]
      unfold Lib.trimPrefix
      rw [if_pos hp]
      show numL R = _
      rw [hn]
      congr 1
      omega
theorem cand_txt {a : Nat} (h : Can a) : cand (txt a) = some a := by
  unfold txt
  by_cases h1 : 9218868437227405312 < rg a
  · rw [if_pos h1, h.2 h1]
    rfl
  · rw [if_neg h1]
    obtain ⟨hm, hp, hn⟩ := mag_cand (rg a) (by omega)
    have hlt := h.1
    unfold rg at hm hp hn ⊢
    unfold cand
    by_cases hs : 9223372036854775808 ≤ a
    · rw [if_pos hs]
      have hpr : Lib.hasPrefix ([45] ++ mag (a % 9223372036854775808)) [45] = true := by simp [Lib.hasPrefix]
      rw [if_neg (by simp)]
      simp only [hpr, if_true]
      unfold Lib.trimPrefix
      rw [if_pos hpr]
      show Option.map _ (mcand (mag (a % 9223372036854775808))) = _
      rw [hm]
      show some (a % 9223372036854775808 + 9223372036854775808) = some a
      congr 1
      omega
    · rw [if_neg hs, List.nil_append, if_neg hn]
      simp only [hp]
      unfold Lib.trimPrefix
      rw [if_neg (by rw [hp]; decide), hm]
      show some (a % 9223372036854775808) = some a
      congr 1
      omega
theorem txt_inj {a b : Nat} (ha : Can a) (hb : Can b) (h : txt a = txt b) : a = b := by
  have h1 := cand_txt ha
  rw [h, cand_txt hb] at h1
  exact (Option.some.inj h1).symm
theorem numL_lt {l : List UInt8} {v : Nat} (h : numL l = some v) : v < 9218868437227405312 := by
  unfold numL at h
  split at h
  · split at h
    · split at h
      · rename_i hh
        obtain ⟨h1, h2, h3, h4⟩ := hh
        have hv : hval ((cutL (cutL l 112).1 46).2.1 ++ List.replicate (13 - (cutL (cutL l 112).1 46).2.1.length) 48) < 16 ^ 13 := by
          refine hval_lt 13 _ (by rw [List.length_append, List.length_replicate]; omega) fun c hc => ?_
          rcases List.mem_append.1 hc with hc | hc
          · exact h4 c hc
          · rw [(List.mem_replicate.1 hc).2]
            decide
        have h6 : (16 : Nat) ^ 13 = 4503599627370496 := by decide
        have h5 := Option.some.inj h
        split at h5 <;> omega
      · cases h
    · cases h
  · cases h
theorem mcand_le {r : List UInt8} {v : Nat} (h : mcand r = some v) : v ≤ 9218868437227405312 := by
  unfold mcand at h
  split at h
  · rw [← Option.some.inj h]
    decide
  · split at h
    · rw [← Option.some.inj h]
      decide
    · split at h
      · exact Nat.le_of_lt (numL_lt h)
      · cases h
/-- What is taken is canonical. -/
theorem cand_can {s : List UInt8} {a : Nat} (h : cand s = some a) : Can a := by
  unfold cand at h
  split at h
  · rw [← Option.some.inj h]
    exact ⟨by decide, fun _ => rfl⟩
  · cases e : mcand (Lib.trimPrefix s [45]) with
    | none => rw [e] at h; cases h
    | some v =>
      rw [e] at h
      have hv := mcand_le e
      have h2 : (if Lib.hasPrefix s [45] = true then v + 9223372036854775808 else v) = a := Option.some.inj h
      have h3 : a = v + 9223372036854775808 ∨ a = v := by
        split at h2 <;> omega
      unfold Can rg
      constructor <;> omega
/-- The answer of Parse: the float whose text it is, or the error. -/
def Ans (s : List UInt8) (v : Nat) (er : Int) : Prop := (Can v ∧ txt v = s ∧ er = 0) ∨ ((∀ a, Can a → txt a ≠ s) ∧ v = 0 ∧ er = 3)
theorem ans_one {s : List UInt8} {v v' : Nat} {er er' : Int} (h : Ans s v er) (h' : Ans s v' er') : v = v' ∧ er = er' := by
  rcases h with ⟨h1, h2, h3⟩ | ⟨h1, h2, h3⟩ <;> rcases h' with ⟨g1, g2, g3⟩ | ⟨g1, g2, g3⟩
  · exact ⟨txt_inj h1 g1 (h2.trans g2.symm), h3.trans g3.symm⟩
  · exact absurd h2 (g1 v h1)
  · exact absurd g2 (h1 v' g1)
  · exact ⟨h2.trans g2.symm, h3.trans g3.symm⟩
theorem ans_some {s : List UInt8} {a : Nat} (h : cand s = some a) (ht : txt a = s) : Ans s a 0 := .inl ⟨cand_can h, ht, rfl⟩
theorem ans_bad {s : List UInt8} {a : Nat} (h : cand s = some a) (ht : txt a ≠ s) : Ans s 0 3 := by
  refine .inr ⟨fun b hb e => ?_, rfl, rfl⟩
  have h2 := cand_txt hb
  rw [e, h] at h2
  rw [Option.some.inj h2] at ht
  exact ht e
theorem ans_none {s : List UInt8} (h : cand s = none) : Ans s 0 3 := by
  refine .inr ⟨fun b hb e => ?_, rfl, rfl⟩
  have h2 := cand_txt hb
  rw [e, h] at h2
  cases h2
end Go.Proofs.YtjaeligjcgjamaaDoor.DTxt
