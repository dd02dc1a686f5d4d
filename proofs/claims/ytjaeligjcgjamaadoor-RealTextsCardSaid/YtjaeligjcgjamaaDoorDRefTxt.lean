/- What the reference takes a text for, and that it finds the float whose text it is. Plain Lean. -/
import Derived.Lib.ItoaLen
import Derived.Test.YtjaeligjcgjamaaDoorDTxt
namespace Go.Proofs.YtjaeligjcgjamaaDoor.DRefTxt
open Go.Proofs.YtjaeligjcgjamaaDoor.FloatPlain Go.Proofs.YtjaeligjcgjamaaDoor.DHex Go.Proofs.YtjaeligjcgjamaaDoor.DUnhex Go.Proofs.YtjaeligjcgjamaaDoor.DUnhexAny Go.Proofs.YtjaeligjcgjamaaDoor.DWorks Go.Proofs.YtjaeligjcgjamaaDoor.DTxt
set_option linter.unusedVariables false
/-- A letter's value as the reference reads it. -/
def dgv (c : UInt8) : Int := if 48 ≤ c.toNat ∧ c.toNat ≤ 57 then (c.toNat : Int) - 48 else if 97 ≤ c.toNat ∧ c.toNat ≤ 102 then (c.toNat : Int) - 87 else -1
/-- The reference's number. -/
def numR (l : List UInt8) : Option Int :=
  if 6 < l.length then none
  else if l.head? = some 45 then (if l.length = 1 then none else (Lib.decFrom 0 (l.drop 1)).map fun (n : Nat) => -(n : Int))
  else if l.length = 0 then none else (Lib.decFrom 0 l).map fun (n : Nat) => (n : Int)
/-- The digits of a fraction, from the k-th place on: what they add, and what is left. -/
def scan : Nat → List UInt8 → Nat × List UInt8
  | _, [] => (0, [])
  | k, c :: u => if k < 13 ∧ 0 ≤ dgv c then ((dgv c).toNat * 16 ^ (12 - k) + (scan (k + 1) u).1, (scan (k + 1) u).2) else (0, c :: u)
def start (t : List UInt8) : List UInt8 := if t[3]? = some 46 then t.drop 4 else t.drop 3
def expR (r : List UInt8) : Option Int := if r.head? = some 112 then numR (r.drop 1) else none
def manR (t : List UInt8) : Option Nat :=
  match expR (scan 0 (start t)).2 with
  | some e => if -1022 ≤ e ∧ e ≤ 1023 then some ((if t[2]? = some 49 then (e + 1023).toNat * 4503599627370496 else 0) + (scan 0 (start t)).1) else none
  | none => none
def mcandR (t : List UInt8) : Option Nat := if t = [48] then some 0 else if t = [105, 110, 102] then some 9218868437227405312 else if 3 < t.length ∧ t.length < 40 ∧ t.take 2 = [48, 120] then manR t else none
def bare (s : List UInt8) : List UInt8 := if s.head? = some 45 then s.drop 1 else s
def candR (s : List UInt8) : Option Nat := if s = [110, 97, 110] then some 9221120237041090560 else (mcandR (bare s)).map fun m => if s.head? = some 45 then m + 9223372036854775808 else m
theorem dgv_le (c : UInt8) : dgv c ≤ 15 := by
  unfold dgv
  split
  · omega
  · split <;> omega
theorem scan_lt : ∀ (u : List UInt8) (k : Nat), k ≤ 13 → (scan k u).1 < 16 ^ (13 - k)
  | [], k, h => by
    show 0 < _
    exact Nat.pow_pos (by decide)
  | c :: u, k, h => by
    unfold scan
    split
    · rename_i hc
      have h1 := scan_lt u (k + 1) (by omega)
      have h2 := dgv_le c
      have e1 : 13 - (k + 1) = 12 - k := by omega
      have e2 : 13 - k = 12 - k + 1 := by omega
      rw [e1] at h1
      rw [e2, Nat.pow_succ]
      have h3 : (dgv c).toNat * 16 ^ (12 - k) ≤ 15 * 16 ^ (12 - k) := Nat.mul_le_mul_right _ (by omega)
      show (dgv c).toNat * 16 ^ (12 - k) + (scan (k + 1) u).1 < _
      omega
    · exact Nat.pow_pos (by decide)
theorem hval_cons (c : UInt8) (l : List UInt8) : hval (c :: l) = hexv c.toNat * 16 ^ l.length + hval l := by
  have key : ∀ (l : List UInt8) (a : Nat), l.foldl (fun a c => a * 16 + hexv c.toNat) a = a * 16 ^ l.length + hval l := by
    intro l
    induction l with
    | nil => intro a; simp [hval]
    | cons x l ih =>
      intro a
      unfold hval
      rw [List.foldl_cons, ih, List.foldl_cons, ih, List.length_cons, Nat.pow_succ, Nat.add_mul, Nat.zero_mul, Nat.zero_add]
      have e : a * 16 * 16 ^ l.length = a * (16 ^ l.length * 16) := by rw [Nat.mul_assoc, Nat.mul_comm 16]
      rw [e]
      omega
  unfold hval
  rw [List.foldl_cons, key, Nat.zero_mul, Nat.zero_add]
  rfl
theorem hval_pad (l : List UInt8) (n : Nat) : hval (l ++ List.replicate n 48) = hval l * 16 ^ n := by
  induction n with
  | zero => simp
  | succ n ih =>
    rw [List.replicate_succ', ← List.append_assoc, hval_snoc, ih, Nat.pow_succ, ← Nat.mul_assoc]
    rfl
theorem dgv_hd : ∀ d : Fin 16, dgv (UInt8.ofNat (hd d.val)) = (d.val : Int) := by decide
theorem h13_dgv {f : Nat} {c : UInt8} (h : c ∈ h13 f) : 0 ≤ dgv c ∧ (dgv c).toNat = hexv c.toNat := by
  obtain ⟨k, hk, rfl⟩ := List.mem_map.1 h
  have hm : f / 16 ^ (12 - k) % 16 < 16 := Nat.mod_lt _ (by decide)
  have h1 := dgv_hd ⟨_, hm⟩
  have h2 := hd_val _ hm
  simp only at h1
  rw [h1, h2]
  omega
theorem scan_all : ∀ (T : List UInt8) (r : List UInt8) (k : Nat), (∀ c ∈ T, 0 ≤ dgv c ∧ (dgv c).toNat = hexv c.toNat) → k + T.length ≤ 13 → scan k (T ++ 112 :: r) = (hval T * 16 ^ (13 - k - T.length), 112 :: r)
  | [], r, k, _, _ => by
    show scan k (112 :: r) = _
    unfold scan
    rw [if_neg (by rintro ⟨_, h⟩; exact absurd h (by decide))]
    simp [hval]
  | c :: T, r, k, h, hl => by
    rw [List.length_cons] at hl
    have h1 := h c (List.mem_cons_self ..)
    have ih := scan_all T r (k + 1) (fun x hx => h x (List.mem_cons_of_mem _ hx)) (by omega)
    show scan k (c :: (T ++ 112 :: r)) = _
    unfold scan
    rw [if_pos ⟨by omega, h1.1⟩, ih, h1.2, hval_cons]
    have e1 : 13 - (k + 1) - T.length = 13 - k - (c :: T).length := by rw [List.length_cons]; omega
    have e2 : 12 - k = T.length + (13 - k - (c :: T).length) := by rw [List.length_cons]; omega
    simp only
    rw [e1]
    congr 1
    rw [Nat.add_mul, Nat.mul_assoc, ← Nat.pow_add, ← e2]
theorem decFrom_snoc : ∀ (l : List UInt8) (acc n : Nat) (c : UInt8), Lib.decFrom acc l = some n → 48 ≤ c.toNat → c.toNat ≤ 57 → Lib.decFrom acc (l ++ [c]) = some (n * 10 + (c.toNat - 48))
  | [], acc, n, c, h, h1, h2 => by
    simp only [Lib.decFrom, Option.some.injEq] at h
    subst h
    simp [Lib.decFrom, Lib.digitVal, h1, h2]
  | d :: l, acc, n, c, h, h1, h2 => by
    simp only [List.cons_append, Lib.decFrom] at h ⊢
    cases hd : Lib.digitVal d with
    | none => simp [hd] at h
    | some e =>
      simp only [hd] at h ⊢
      exact decFrom_snoc l _ n c h h1 h2
theorem decFrom_dec : ∀ u : Nat, Lib.decFrom 0 (Lib.decDigits u) = some u
  | u => by
    rw [Lib.decDigits]
    split
    · rename_i hu
      have e : (UInt8.ofNat (48 + u)).toNat = 48 + u := by
        rw [UInt8.toNat_ofNat']
        omega
      have hd : Lib.digitVal (UInt8.ofNat (48 + u)) = some u := by
        unfold Lib.digitVal
        rw [e, if_pos (by omega)]
        congr 1
        omega
      simp only [Lib.decFrom]
      rw [hd]
      simp
      rfl
    · rename_i hu
      have e : (UInt8.ofNat (48 + u % 10)).toNat = 48 + u % 10 := by
        rw [UInt8.toNat_ofNat']
        omega
      rw [decFrom_snoc _ 0 (u / 10) (UInt8.ofNat (48 + u % 10)) (decFrom_dec (u / 10)) (by rw [e]; omega) (by rw [e]; omega), e]
      congr 1
      omega
  termination_by u => u
theorem dec_len (u : Nat) : u < 10000 → (Lib.decDigits u).length ≤ 4 := fun h => by
  rw [Lib.decDigits]
  split
  · simp
  · rw [List.length_append, Lib.decDigits]
    split
    · simp
    · rw [List.length_append, Lib.decDigits]
      split
      · simp
      · rw [List.length_append, Lib.decDigits, dif_pos (by omega)]
        simp
theorem num_itoa (e : Int) (h0 : -1022 ≤ e) (h1 : e ≤ 1023) : numR (Lib.itoa e) = some e := by
  unfold Lib.itoa
  split
  · have hl := dec_len e.natAbs (by omega)
    have hn := dec_ne e.natAbs
    have hp : 0 < (Lib.decDigits e.natAbs).length := List.length_pos_iff.2 hn
    unfold numR
    rw [if_neg (by rw [List.length_cons]; omega), if_pos (show (45 :: Lib.decDigits e.natAbs).head? = some 45 from rfl), if_neg (by rw [List.length_cons]; omega)]
    show (Lib.decFrom 0 (Lib.decDigits e.natAbs)).map _ = _
    rw [decFrom_dec]
    show some (-(e.natAbs : Int)) = some e
    congr 1
    omega
  · have hl := dec_len e.toNat (by omega)
    have hn := dec_ne e.toNat
    have hp : 0 < (Lib.decDigits e.toNat).length := List.length_pos_iff.2 hn
    have hh : (Lib.decDigits e.toNat).head? ≠ some 45 := by
      intro h
      have := dec_mem e.toNat 45 (List.mem_of_head? h)
      simp at this
    unfold numR
    rw [if_neg (by omega), if_neg hh, if_neg (by omega), decFrom_dec]
    show some (e.toNat : Int) = some e
    congr 1
    omega
theorem man_body (E f : Nat) (hE : E ≤ 2046) (hf : f < 4503599627370496) : manR (body E f) = some (E * 4503599627370496 + f) := by
  have hx0 : -1022 ≤ expo E ∧ expo E ≤ 1023 := by
    unfold expo
    split <;> omega
  have hs : scan 0 (start (body E f)) = (f, 112 :: Lib.itoa (expo E)) := by
    by_cases h0 : f = 0
    · subst h0
      have e : start (body E 0) = 112 :: Lib.itoa (expo E) := by
        unfold start
        rw [if_neg (by simp [body, frac])]
        simp [body, frac]
      rw [e]
      have := scan_all [] (Lib.itoa (expo E)) 0 (fun c hc => by simp at hc) (by simp)
      simpa [hval] using this
    · have e : start (body E f) = Lib.trimRightB (h13 f) 48 ++ 112 :: Lib.itoa (expo E) := by
        unfold start
        rw [if_pos (by simp [body, frac, h0])]
        simp [body, frac, h0]
      have hl := trim_le (h13 f) 48
      rw [h13_length] at hl
      rw [e, scan_all _ _ 0 (fun c hc => h13_dgv (trim_mem hc)) (by omega)]
      have hb := trim_back (h13 f) 48
      rw [h13_length] at hb
      have hv := hval_pad (Lib.trimRightB (h13 f) 48) (13 - (Lib.trimRightB (h13 f) 48).length)
      rw [hb, hval_h13 f hf] at hv
      rw [Nat.sub_zero, ← hv]
  have h2 : (body E f)[2]? = some (lead E) := by simp [body]
  unfold manR
  rw [hs, h2]
  have he : expR (112 :: Lib.itoa (expo E)) = some (expo E) := by
    unfold expR
    rw [if_pos (show (112 :: Lib.itoa (expo E)).head? = some 112 from rfl)]
    exact num_itoa _ hx0.1 hx0.2
  simp only
  rw [he]
  simp only
  rw [if_pos hx0]
  unfold lead expo
  by_cases h0 : E = 0
  · subst h0
    simp
  · have e1 : ((E : Int) - 1023 + 1023).toNat = E := by omega
    rw [if_neg h0, if_neg h0, if_pos rfl, e1]
theorem mag_candR (p : Nat) (h : p ≤ 9218868437227405312) (hlen : ∀ E f, E ≤ 2047 → (body E f).length < 40) : mcandR (DTxt.mag p) = some p ∧ (DTxt.mag p).head? ≠ some 45 ∧ DTxt.mag p ≠ [110, 97, 110] := by
  unfold DTxt.mag
  split
  · rename_i h0
    rw [h0]
    exact ⟨by unfold mcandR; rw [if_neg (by decide), if_pos rfl], by decide, by decide⟩
  · split
    · rename_i h0
      subst h0
      decide
    · rename_i h1 h2
      have hn := man_body (p / 4503599627370496) (p % 4503599627370496) (by omega) (by omega)
      have hl := hlen (p / 4503599627370496) (p % 4503599627370496) (by omega)
      have e : body (p / 4503599627370496) (p % 4503599627370496) = 48 :: 120 :: ([lead (p / 4503599627370496)] ++ frac (p % 4503599627370496) ++ [112] ++ Lib.itoa (expo (p / 4503599627370496))) := rfl
      have hl3 : 3 < (body (p / 4503599627370496) (p % 4503599627370496)).length := by
        rw [e]
        simp
        omega
      have ht : (body (p / 4503599627370496) (p % 4503599627370496)).take 2 = [48, 120] := by
        rw [e]
        rfl
      refine ⟨?_, by rw [e]; simp, by rw [e]; simp⟩
      unfold mcandR
      rw [if_neg (by rw [e]; simp), if_neg (by rw [e]; simp), if_pos ⟨hl3, hl, ht⟩, hn]
      congr 1
      omega
theorem candR_txt {a : Nat} (h : DTxt.Can a) (hlen : ∀ E f, E ≤ 2047 → (body E f).length < 40) : candR (txt a) = some a := by
  unfold txt
  by_cases h1 : 9218868437227405312 < rg a
  · rw [if_pos h1, h.2 h1]
    rfl
  · rw [if_neg h1]
    obtain ⟨hm, hp, hn⟩ := mag_candR (rg a) (by omega) hlen
    have hlt := h.1
    unfold rg at hm hp hn ⊢
    unfold candR bare
    by_cases hs : 9223372036854775808 ≤ a
    · rw [if_pos hs, if_neg (by simp), if_pos (by rfl)]
      show Option.map _ (mcandR (DTxt.mag (a % 9223372036854775808))) = _
      rw [hm]
      show some (if (45 :: DTxt.mag (a % 9223372036854775808)).head? = some 45 then a % 9223372036854775808 + 9223372036854775808 else a % 9223372036854775808) = some a
      rw [if_pos (show (45 :: DTxt.mag (a % 9223372036854775808)).head? = some 45 from rfl)]
      congr 1
      omega
    · rw [if_neg hs, List.nil_append, if_neg hn, if_neg hp, hm]
      show some (if (DTxt.mag (a % 9223372036854775808)).head? = some 45 then a % 9223372036854775808 + 9223372036854775808 else a % 9223372036854775808) = some a
      rw [if_neg hp]
      congr 1
      omega
theorem manR_lt {t : List UInt8} {v : Nat} (h : manR t = some v) : v < 9218868437227405312 := by
  unfold manR at h
  split at h
  · split at h
    · rename_i e _ hh
      have h1 := scan_lt (start t) 0 (by omega)
      have h2 : (16 : Nat) ^ (13 - 0) = 4503599627370496 := by decide
      have h5 := Option.some.inj h
      split at h5 <;> omega
    · cases h
  · cases h
theorem mcandR_le {t : List UInt8} {v : Nat} (h : mcandR t = some v) : v ≤ 9218868437227405312 := by
  unfold mcandR at h
  split at h
  · rw [← Option.some.inj h]
    decide
  · split at h
    · rw [← Option.some.inj h]
      decide
    · split at h
      · exact Nat.le_of_lt (manR_lt h)
      · cases h
theorem candR_can {s : List UInt8} {a : Nat} (h : candR s = some a) : DTxt.Can a := by
  unfold candR at h
  split at h
  · rw [← Option.some.inj h]
    exact ⟨by decide, fun _ => rfl⟩
  · cases e : mcandR (bare s) with
    | none => rw [e] at h; cases h
    | some v =>
      rw [e] at h
      have hv := mcandR_le e
      have h2 : (if s.head? = some 45 then v + 9223372036854775808 else v) = a := Option.some.inj h
      have h3 : a = v + 9223372036854775808 ∨ a = v := by
        split at h2 <;> omega
      unfold DTxt.Can rg
      constructor <;> omega
theorem body_len (E f : Nat) (hE : E ≤ 2047) : (body E f).length < 40 := by
  have h1 : (Lib.itoa (expo E)).length ≤ 5 := by
    have hx : -1022 ≤ expo E ∧ expo E ≤ 1024 := by
      unfold expo
      split <;> omega
    unfold Lib.itoa
    split
    · have := dec_len (expo E).natAbs (by omega)
      rw [List.length_cons]
      omega
    · have := dec_len (expo E).toNat (by omega)
      omega
  have h2 : (frac f).length ≤ 14 := by
    unfold frac
    split
    · simp
    · have := trim_le (h13 f) 48
      rw [h13_length] at this
      rw [List.length_cons]
      omega
  unfold body
  simp only [List.length_append, List.length_cons, List.length_nil]
  omega
theorem ansR_some {s : List UInt8} {a : Nat} (h : candR s = some a) (ht : txt a = s) : Ans s a 0 := .inl ⟨candR_can h, ht, rfl⟩
theorem ansR_bad {s : List UInt8} {a : Nat} (h : candR s = some a) (ht : txt a ≠ s) : Ans s 0 3 := by
  refine .inr ⟨fun b hb e => ?_, rfl, rfl⟩
  have h2 := candR_txt hb body_len
  rw [e, h] at h2
  rw [Option.some.inj h2] at ht
  exact ht e
theorem ansR_none {s : List UInt8} (h : candR s = none) : Ans s 0 3 := by
  refine .inr ⟨fun b hb e => ?_, rfl, rfl⟩
  have h2 := candR_txt hb body_len
  rw [e, h] at h2
  cases h2
end Go.Proofs.YtjaeligjcgjamaaDoor.DRefTxt
