/- What the printed contracts of chapter 13 answer: plain. -/
import Derived.Test.YtiinflgoflkomaaLoadX3
import Derived.Test.YtiinflgoflkomaaLoadPure
import Derived.Test.YtiinflgoflkomaaAid
namespace Go.Proofs.Ytiinflgoflkomaa.LoadF
open Go.RowKit Go.Proofs.Ytiinflgoflkomaa.PLoadChecks Go.Proofs.YtiinflgoflkomaaW.PrintWords Go.Proofs.Ytiinflgoflkomaa.Aid Go.Proofs.Ytiinflgoflkomaa.LoadPure
set_option linter.unusedVariables false
set_option linter.unusedSimpArgs false
/-- An image that memory can hold. -/
def Sz (l : List S45) : Prop := l.length < 3518437208883 ∧ ∀ s ∈ l, s.f2.length < 140737488355328
def rowE (s : S45) (T L : Int) : Int := secE s.f0 s.f1 s.f2.length T L
def chkL : Int → Int → List S45 → Int
  | _, _, [] => 0
  | T, L, s :: r => if rowE s T L ≠ 0 then rowE s T L else chkL (T + s.f2.length) (endP s.f0 s.f2.length) r
def imgL (entry : Int) (l : List S45) : Int := if entry % 4 ≠ 0 ∨ 1048576 ≤ entry then 6 else if 16 < l.length then 9 else chkL 0 (-1) l
theorem rd_drop {l : List S45} {i : Nat} (h : i < l.length) : l.drop i = rd_T45 l (i : Int) :: l.drop (i + 1) := by
  rw [List.drop_eq_getElem_cons h]
  simp [rd_T45, h]
theorem rd_mem {l : List S45} {i : Nat} (h : i < l.length) : rd_T45 l (i : Int) ∈ l := by
  have : rd_T45 l (i : Int) = l[i] := by simp [rd_T45, h]
  rw [this]
  exact List.getElem_mem h
theorem end_f {pg pm : Int} {b : List Int} (h1 : 1 ≤ b.length) (hn : b.length < 140737488355328) (p0 : -4611686018427387904 ≤ pg ∧ pg ≤ 4611686018427387904) : load_end.f pg pm b = some (endP pg b.length) := by
  have e1 : wrap64 ((b.length : Int) - 1) = (b.length : Int) - 1 := w64 (by omega) (by omega)
  have e2 : ((b.length : Int) - 1).tdiv 256 = ((b.length : Int) - 1) / 256 := Int.tdiv_eq_ediv_of_nonneg (by omega)
  have e4 : wrap64 (((b.length : Int) - 1) / 256) = ((b.length : Int) - 1) / 256 := w64 (by omega) (by omega)
  have e3 : wrap64 (pg + ((b.length : Int) - 1) / 256) = pg + ((b.length : Int) - 1) / 256 := w64 (by omega) (by omega)
  unfold load_end.f endP
  rw [e1, e2, e4, e3]
theorem last_f {pg pm : Int} {b : List Int} (h1 : 1 ≤ b.length) (hn : b.length < 140737488355328) (p0 : -4611686018427387904 ≤ pg ∧ pg ≤ 4611686018427387904) : bulkheadref13_last.f pg pm b = some (endP pg b.length) := by
  have e1 : wrap64 ((b.length : Int) + 255) = (b.length : Int) + 255 := w64 (by omega) (by omega)
  have e2 : ((b.length : Int) + 255).tdiv 256 = ((b.length : Int) + 255) / 256 := Int.tdiv_eq_ediv_of_nonneg (by omega)
  have e4 : wrap64 (((b.length : Int) + 255) / 256) = ((b.length : Int) + 255) / 256 := w64 (by omega) (by omega)
  have e3 : wrap64 (pg + ((b.length : Int) + 255) / 256) = pg + ((b.length : Int) + 255) / 256 := w64 (by omega) (by omega)
  have e5 : wrap64 (pg + ((b.length : Int) + 255) / 256 - 1) = pg + ((b.length : Int) + 255) / 256 - 1 := w64 (by omega) (by omega)
  unfold bulkheadref13_last.f
  rw [e1, e2, e4, e3, e5, endP_ref h1]
theorem section_f {k : Nat} {s : S45} {T L : Int} (hs : s.f2.length < 140737488355328) (hT : 0 ≤ T ∧ T ≤ 16384) : load_section.f (k + 2) s.f0 s.f1 s.f2 T L = some (rowE s T L) := by
  have e1 : wrap64 (T + (s.f2.length : Int)) = T + (s.f2.length : Int) := w64 (by omega) (by omega)
  unfold load_section.f rowE secE
  simp only [load_section.j0, load_section.j1, e1]
  by_cases a1 : s.f0 < 0
  · simp [a1]
  by_cases a2 : 4096 ≤ s.f0
  · simp [a1, a2]
  by_cases a3 : s.f1 < 1
  · simp [a1, a2, a3]
  by_cases a4 : 7 < s.f1
  · simp [a1, a2, a3, a4]
  by_cases a5 : s.f2.length = 0
  · have : s.f2 = [] := List.eq_nil_of_length_eq_zero a5
    simp [a1, a2, a3, a4, this]
  have a5' : ¬ s.f2 = [] := fun h => a5 (by rw [h]; rfl)
  by_cases a6 : 16384 < T + (s.f2.length : Int)
  · simp [a1, a2, a3, a4, a5, a5', a6]
  · have hE := end_f (pg := s.f0) (pm := s.f1) (b := s.f2) (by omega) hs (by omega)
    simp [a1, a2, a3, a4, a5, a5', a6, hE]
    by_cases a7 : 4096 ≤ endP s.f0 s.f2.length
    · simp [a7]
    by_cases a8 : s.f0 ≤ L
    · simp [a7, a8]
    · simp [a7, a8]
theorem rsection_f {k : Nat} {s : S45} {T L : Int} (hs : s.f2.length < 140737488355328) (hT : 0 ≤ T ∧ T ≤ 16384) : bulkheadref13_section.f (k + 2) s.f0 s.f1 s.f2 (mn (wrap64 (T + (s.f2.length : Int))) 1048576) L = some (rowE s T L) := by
  have e1 : wrap64 (T + (s.f2.length : Int)) = T + (s.f2.length : Int) := w64 (by omega) (by omega)
  rw [e1]
  have e2 : mn (T + (s.f2.length : Int)) 1048576 > 16384 ↔ 16384 < T + (s.f2.length : Int) := by
    unfold mn
    split <;> omega
  unfold bulkheadref13_section.f rowE secE
  simp only [bulkheadref13_section.j0, e2]
  by_cases a1 : s.f0 < 0
  · simp [a1]
  by_cases a2 : 4095 < s.f0
  · have : 4096 ≤ s.f0 := a2
    simp [a1, a2, this]
  have a2' : ¬ 4096 ≤ s.f0 := a2
  by_cases a3 : s.f1 < 1
  · simp [a1, a2, a2', a3]
  by_cases a4 : 7 < s.f1
  · simp [a1, a2, a2', a3, a4]
  by_cases a5 : s.f2.length = 0
  · have : s.f2 = [] := List.eq_nil_of_length_eq_zero a5
    simp [a1, a2, a2', a3, a4, this]
  have a5' : ¬ s.f2 = [] := fun h => a5 (by rw [h]; rfl)
  by_cases a6 : 16384 < T + (s.f2.length : Int)
  · simp [a1, a2, a2', a3, a4, a5, a5', a6]
  · have hE := last_f (pg := s.f0) (pm := s.f1) (b := s.f2) (by omega) hs (by omega)
    simp [a1, a2, a2', a3, a4, a5, a5', a6, hE]
    by_cases a7 : 4095 < endP s.f0 s.f2.length
    · have : 4096 ≤ endP s.f0 s.f2.length := a7
      simp [a7, this]
    have a7' : ¬ 4096 ≤ endP s.f0 s.f2.length := a7
    by_cases a8 : s.f0 ≤ L
    · simp [a7, a7', a8]
    · simp [a7, a7', a8]
theorem step_T {s : S45} {T L : Int} (h : rowE s T L = 0) (hT : 0 ≤ T) : 0 ≤ T + (s.f2.length : Int) ∧ T + (s.f2.length : Int) ≤ 16384 ∧ 1 ≤ s.f2.length ∧ 0 ≤ s.f0 ∧ s.f0 < 4096 := by
  have := secE_ok h
  omega
theorem Check_l0 {l : List S45} (hl : Sz l) (hl16 : l.length ≤ 16) : ∀ (n i k : Nat) (T L : Int), l.length - i = n → i ≤ l.length → n + 3 ≤ k → 0 ≤ T ∧ T ≤ 16384 → load_Check.l0 k T L l (l.length : Int) (i : Int) = some (chkL T L (l.drop i))
  | 0, i, k, T, L, hn, hi, hk, hT => by
    obtain ⟨k, rfl⟩ : ∃ m, k = m + 1 := ⟨k - 1, by omega⟩
    have : ¬ ((i : Int) < (l.length : Int)) := by omega
    rw [load_Check.l0, if_neg this, List.drop_of_length_le (by omega)]
    rfl
  | n + 1, i, k, T, L, hn, hi, hk, hT => by
    obtain ⟨k, rfl⟩ : ∃ m, k = m + 3 := ⟨k - 3, by omega⟩
    have h1 : i < l.length := by omega
    have h2 : (i : Int) < (l.length : Int) := by omega
    have hm := hl.2 _ (rd_mem h1)
    rw [rd_drop h1]
    have hw : wrap64 ((i : Int) + 1) = ((i + 1 : Nat) : Int) := by
      rw [w64 (by omega) (by omega)]
      omega
    rw [load_Check.l0, if_pos h2, if_pos (by omega), if_pos h2, section_f hm hT]
    generalize rd_T45 l (i : Int) = s at *
    by_cases h0 : rowE s T L = 0
    · have hs := step_T h0 hT.1
      have hE := end_f (pg := s.f0) (pm := s.f1) (b := s.f2) (by omega) hm (by omega)
      rw [Option.bind_some, if_pos h0, hE, Option.bind_some, w64 (x := T + (s.f2.length : Int)) (by omega) (by omega), hw, Check_l0 hl hl16 n (i + 1) (k + 2) _ _ (by omega) (by omega) (by omega) (by omega)]
      show _ = some (if rowE s T L ≠ 0 then _ else _)
      rw [if_neg (fun h => h h0)]
    · rw [Option.bind_some, if_neg h0]
      show _ = some (if rowE s T L ≠ 0 then _ else _)
      rw [if_pos h0]
theorem rCheck_l0 {a : Int} {l : List S45} (hl : Sz l) (hl16 : l.length ≤ 16) : ∀ (n i k : Nat) (T L : Int), l.length - i = n → i ≤ l.length → n + 3 ≤ k → 0 ≤ T ∧ T ≤ 16384 → bulkheadref13_Check.l0 k T L (i : Int) a l = some (chkL T L (l.drop i))
  | 0, i, k, T, L, hn, hi, hk, hT => by
    obtain ⟨k, rfl⟩ : ∃ m, k = m + 1 := ⟨k - 1, by omega⟩
    have : ¬ ((i : Int) < (l.length : Int)) := by omega
    rw [bulkheadref13_Check.l0, if_neg this, List.drop_of_length_le (by omega)]
    rfl
  | n + 1, i, k, T, L, hn, hi, hk, hT => by
    obtain ⟨k, rfl⟩ : ∃ m, k = m + 3 := ⟨k - 3, by omega⟩
    have h1 : i < l.length := by omega
    have h2 : (i : Int) < (l.length : Int) := by omega
    have hm := hl.2 _ (rd_mem h1)
    rw [rd_drop h1]
    have hw : wrap64 ((i : Int) + 1) = ((i + 1 : Nat) : Int) := by
      rw [w64 (by omega) (by omega)]
      omega
    rw [bulkheadref13_Check.l0, if_pos h2, if_pos (by omega), rsection_f hm hT]
    generalize rd_T45 l (i : Int) = s at *
    by_cases h0 : rowE s T L = 0
    · have hs := step_T h0 hT.1
      have hE := last_f (pg := s.f0) (pm := s.f1) (b := s.f2) (by omega) hm (by omega)
      have hmn : mn (wrap64 (T + (s.f2.length : Int))) 1048576 = T + (s.f2.length : Int) := by
        rw [w64 (x := T + (s.f2.length : Int)) (by omega) (by omega)]
        unfold mn
        split <;> omega
      rw [Option.bind_some, if_pos h0, hE, Option.bind_some, hmn, hw, rCheck_l0 hl hl16 n (i + 1) (k + 2) _ _ (by omega) (by omega) (by omega) (by omega)]
      show _ = some (if rowE s T L ≠ 0 then _ else _)
      rw [if_neg (fun h => h h0)]
    · rw [Option.bind_some, if_neg h0]
      show _ = some (if rowE s T L ≠ 0 then _ else _)
      rw [if_pos h0]
theorem Check_f {a : Int} {l : List S45} {k : Nat} (ha : 0 ≤ a) (hl : Sz l) (hk : 20 ≤ k) : load_Check.f k a l = some (imgL a l) := by
  obtain ⟨k, rfl⟩ : ∃ m, k = m + 1 := ⟨k - 1, by omega⟩
  unfold load_Check.f imgL
  simp only [load_Check.j0]
  by_cases h1 : a % 4 = 0
  · by_cases h2 : 1048576 ≤ a
    · simp [Int.tmod_eq_emod_of_nonneg ha, h1, h2]
    · by_cases h3 : 16 < l.length
      · have h3' : (16 : Int) < (l.length : Int) := by omega
        simp [Int.tmod_eq_emod_of_nonneg ha, h1, h2, h3, h3']
      · have h3' : ¬ (16 : Int) < (l.length : Int) := by omega
        simp only [Int.tmod_eq_emod_of_nonneg ha, h1, h2, h3, h3', gt_iff_lt, ge_iff_le, ne_eq, not_true_eq_false, or_self, decide_false, if_true, if_false, Bool.false_eq_true]
        exact Check_l0 hl (by omega) l.length 0 k 0 (-1) (by omega) (by omega) (by omega) (by omega)
  · simp [Int.tmod_eq_emod_of_nonneg ha, h1]
theorem rCheck_f {a : Int} {l : List S45} {k : Nat} (ha : 0 ≤ a) (hl : Sz l) (hk : 20 ≤ k) : bulkheadref13_Check.f k a l = some (imgL a l) := by
  obtain ⟨k, rfl⟩ : ∃ m, k = m + 1 := ⟨k - 1, by omega⟩
  unfold bulkheadref13_Check.f imgL
  simp only [bulkheadref13_Check.j0]
  by_cases h1 : a % 4 = 0
  · by_cases h2 : 1048576 ≤ a
    · simp [Int.tmod_eq_emod_of_nonneg ha, h1, h2]
    · by_cases h3 : 16 < l.length
      · have h3' : (16 : Int) < (l.length : Int) := by omega
        simp [Int.tmod_eq_emod_of_nonneg ha, h1, h2, h3, h3']
      · have h3' : ¬ (16 : Int) < (l.length : Int) := by omega
        simp only [Int.tmod_eq_emod_of_nonneg ha, h1, h2, h3, h3', gt_iff_lt, ge_iff_le, ne_eq, not_true_eq_false, or_self, decide_false, if_true, if_false, Bool.false_eq_true]
        exact rCheck_l0 hl (by omega) l.length 0 k 0 (-1) (by omega) (by omega) (by omega) (by omega)
  · simp [Int.tmod_eq_emod_of_nonneg ha, h1]
theorem Copy_l0 {a : Int} {l : List S45} (hl : Sz l) : ∀ (n i k : Nat), l.length - i = n → i ≤ l.length → n < k → bulkheadref13_Copy.l0 k (i : Int) a l a (l.take i) = some (a, l)
  | 0, i, k, hn, hi, hk => by
    obtain ⟨k, rfl⟩ : ∃ m, k = m + 1 := ⟨k - 1, by omega⟩
    have : ¬ ((i : Int) < (l.length : Int)) := by omega
    rw [bulkheadref13_Copy.l0, if_neg this, List.take_of_length_le (by omega)]
  | n + 1, i, k, hn, hi, hk => by
    obtain ⟨k, rfl⟩ : ∃ m, k = m + 1 := ⟨k - 1, by omega⟩
    have h1 : i < l.length := by omega
    have h2 : (i : Int) < (l.length : Int) := by omega
    have hm := hl.2 _ (rd_mem h1)
    have hw : wrap64 ((i : Int) + 1) = ((i + 1 : Nat) : Int) := by
      have := hl.1
      rw [w64 (by omega) (by omega)]
      omega
    rw [bulkheadref13_Copy.l0, if_pos h2, if_pos (by omega), Option.bind_some, if_pos (by simpa using hm), if_pos (by have := hl.1; simp; omega), hw]
    have ht : l.take i ++ [(⟨(rd_T45 l (i : Int)).f0, (rd_T45 l (i : Int)).f1, ([] : List Int) ++ (rd_T45 l (i : Int)).f2⟩ : S45)] = l.take (i + 1) := by
      have e : rd_T45 l (i : Int) = l[i] := by simp [rd_T45, h1]
      rw [e]
      exact (List.take_succ_eq_append_getElem h1).symm
    rw [ht]
    exact Copy_l0 hl n (i + 1) k (by omega) (by omega) (by omega)
theorem Copy_f {a : Int} {l : List S45} (hl : Sz l) : bulkheadref13_Copy.f (l.length + 1) a l = some (a, l) := Copy_l0 hl l.length 0 _ (by omega) (by omega) (by omega)
/-- A number's bytes, the lowest first. -/
def le : Int → Nat → List Int
  | _, 0 => []
  | x, n + 1 => x % 256 :: le (x / 256) n
theorem le_length : ∀ (n : Nat) (x : Int), (le x n).length = n
  | 0, _ => rfl
  | n + 1, x => by rw [le, List.length_cons, le_length n]
theorem Put_l0 {m : Nat} (hm : m ≤ 8) : ∀ (n i k : Nat) (x : Int) (xs : List Int), m - i = n → i ≤ m → n < k → xs.length = i → 0 ≤ x ∧ x < 18446744073709551616 → bulkheadref01_Put.l0 k x (m : Int) xs (i : Int) = some (xs ++ le x n)
  | 0, i, k, x, xs, hn, hi, hk, hx, hb => by
    obtain ⟨k, rfl⟩ : ∃ m, k = m + 1 := ⟨k - 1, by omega⟩
    have : ¬ ((i : Int) < (m : Int)) := by omega
    rw [bulkheadref01_Put.l0, if_neg this, le, List.append_nil]
  | n + 1, i, k, x, xs, hn, hi, hk, hx, hb => by
    obtain ⟨k, rfl⟩ : ∃ m, k = m + 1 := ⟨k - 1, by omega⟩
    have hw : wrap64 ((i : Int) + 1) = ((i + 1 : Nat) : Int) := by
      rw [w64 (by omega) (by omega)]
      omega
    rw [bulkheadref01_Put.l0, if_pos (by omega), if_pos (by omega), if_pos (by omega), hw, Int.tdiv_eq_ediv_of_nonneg hb.1, Int.tmod_eq_emod_of_nonneg hb.1, u64w, Put_l0 hm n (i + 1) k _ _ (by omega) (by omega) (by omega) (by simp [hx]) (by omega), le, List.append_assoc]
    have e1 : x / 256 % 18446744073709551616 = x / 256 := by omega
    rw [e1]
    simp
theorem Put_f {m : Nat} (hm : m ≤ 8) {k : Nat} (hk : 9 ≤ k) {x : Int} (hx : 0 ≤ x ∧ x < 18446744073709551616) : bulkheadref01_Put.f k x (m : Int) = some (le x m) := by
  unfold bulkheadref01_Put.f
  exact Put_l0 hm m 0 k x [] (by omega) (by omega) (by omega) rfl hx
/-- What a section is written as; what an image is. -/
def encS (s : S45) : List Int := le (s.f0 % 18446744073709551616) 2 ++ [s.f1 % 256] ++ le (s.f2.length % 18446744073709551616 : Int) 2 ++ s.f2
def encL (a : Int) (l : List S45) : List Int := [86, 82, 73, 77, 1] ++ le (a % 18446744073709551616) 4 ++ [(l.length : Int) % 256] ++ l.flatMap encS
theorem rEncode_l0 {a : Int} {l : List S45} (hl : Sz l) (hl16 : l.length ≤ 16) (hb : ∀ s ∈ l, s.f2.length ≤ 16384) : ∀ (n i k : Nat) (xs : List Int), l.length - i = n → i ≤ l.length → n + 10 ≤ k → xs.length ≤ 10 + i * 16389 → bulkheadref13_Encode.l0 k xs (i : Int) a l = some (xs ++ (l.drop i).flatMap encS, 0)
  | 0, i, k, xs, hn, hi, hk, hx => by
    obtain ⟨k, rfl⟩ : ∃ m, k = m + 1 := ⟨k - 1, by omega⟩
    have : ¬ ((i : Int) < (l.length : Int)) := by omega
    rw [bulkheadref13_Encode.l0, if_neg this, List.drop_of_length_le (by omega)]
    simp
  | n + 1, i, k, xs, hn, hi, hk, hx => by
    obtain ⟨k, rfl⟩ : ∃ m, k = m + 1 := ⟨k - 1, by omega⟩
    have h1 : i < l.length := by omega
    have h2 : (i : Int) < (l.length : Int) := by omega
    have hm := hb _ (rd_mem h1)
    have hw : wrap64 ((i : Int) + 1) = ((i + 1 : Nat) : Int) := by
      rw [w64 (by omega) (by omega)]
      omega
    rw [bulkheadref13_Encode.l0, if_pos h2, if_pos (by omega), rd_drop h1]
    generalize rd_T45 l (i : Int) = s at *
    have p1 := Put_f (m := 2) (k := k) (by omega) (by omega) (x := s.f0 % 18446744073709551616) (by omega)
    have p2 := Put_f (m := 2) (k := k) (by omega) (by omega) (x := (s.f2.length : Int) % 18446744073709551616) (by omega)
    rw [u64w, u64w]
    have c2 : ((2 : Nat) : Int) = 2 := rfl
    rw [c2] at p1 p2
    rw [p1, Option.bind_some, if_pos (by rw [le_length]; omega), Option.bind_some, if_pos (by rw [List.length_append, le_length]; omega), Option.bind_some, p2, Option.bind_some, if_pos (by rw [List.length_append, List.length_append, le_length, le_length]; simp; omega), Option.bind_some, if_pos (by rw [List.length_append, List.length_append, List.length_append, le_length, le_length]; simp; omega), hw,
      rEncode_l0 hl hl16 hb n (i + 1) k _ (by omega) (by omega) (by omega) (by rw [List.length_append, List.length_append, List.length_append, List.length_append, le_length, le_length]; simp; omega)]
    simp [encS, List.append_assoc]
theorem chkL_len : ∀ (l : List S45) (T L : Int), 0 ≤ T → chkL T L l = 0 → ∀ s ∈ l, s.f2.length ≤ 16384
  | [], _, _, _, _, s, hs => absurd hs (by simp)
  | x :: r, T, L, hT, h, s, hs => by
    have h' : (if rowE x T L ≠ 0 then rowE x T L else chkL (T + x.f2.length) (endP x.f0 x.f2.length) r) = 0 := h
    by_cases h0 : rowE x T L = 0
    · rw [if_neg (fun h => h h0)] at h'
      have ok := secE_ok h0
      rcases List.mem_cons.1 hs with rfl | hs
      · omega
      · exact chkL_len r _ _ (by omega) h' s hs
    · rw [if_pos h0] at h'
      exact absurd h' h0
theorem imgL_ok {a : Int} {l : List S45} (h : imgL a l = 0) : a % 4 = 0 ∧ a < 1048576 ∧ l.length ≤ 16 ∧ chkL 0 (-1) l = 0 := by
  unfold imgL at h
  split at h
  · cases h
  · split at h
    · cases h
    · refine ⟨by omega, by omega, by omega, h⟩
def encA (a : Int) (l : List S45) : List Int := if imgL a l = 0 then encL a l else []
theorem rEncode_f {a : Int} {l : List S45} {k : Nat} (ha : 0 ≤ a) (hl : Sz l) (hk : 30 ≤ k) : bulkheadref13_Encode.f k a l = some (encA a l, imgL a l) := by
  unfold bulkheadref13_Encode.f encA
  rw [rCheck_f ha hl (by omega), Option.bind_some]
  by_cases h0 : imgL a l = 0
  · obtain ⟨h1, h2, h3, h4⟩ := imgL_ok h0
    have p1 := Put_f (m := 4) (k := k) (by omega) (by omega) (x := a % 18446744073709551616) (by omega)
    have c4 : ((4 : Nat) : Int) = 4 := rfl
    rw [c4] at p1
    have e5 : bytesOf (⟨#[86, 82, 73, 77, 1]⟩ : ByteArray) = [86, 82, 73, 77, 1] := by decide
    rw [if_pos h0, if_pos h0, h0, Option.bind_some, if_pos (by simp), Option.bind_some, u64w, p1, Option.bind_some, e5, if_pos (by rw [le_length]; simp), Option.bind_some, if_pos (by rw [List.length_append, le_length]; simp)]
    refine (rEncode_l0 hl h3 (chkL_len l _ _ (by omega) h4) l.length 0 k _ (by omega) (by omega) (by omega) (by rw [List.length_append, List.length_append, le_length]; simp)).trans ?_
    simp [encL, List.append_assoc]
  · rw [if_neg h0, if_neg h0]
theorem strNums_ne (l : List S46) : True := trivial
theorem SameP_l0 {l : List S46} (hl : l.length < 140737488355328) : ∀ (n i k : Nat), l.length - i = n → i ≤ l.length → n < k → bulkheadref13_SamePages.l0 k l l (i : Int) = some true
  | 0, i, k, hn, hi, hk => by
    obtain ⟨k, rfl⟩ : ∃ m, k = m + 1 := ⟨k - 1, by omega⟩
    have : ¬ ((i : Int) < (l.length : Int)) := by omega
    rw [bulkheadref13_SamePages.l0, if_neg this]
  | n + 1, i, k, hn, hi, hk => by
    obtain ⟨k, rfl⟩ : ∃ m, k = m + 1 := ⟨k - 1, by omega⟩
    have hw : wrap64 ((i : Int) + 1) = ((i + 1 : Nat) : Int) := by
      rw [w64 (by omega) (by omega)]
      omega
    rw [bulkheadref13_SamePages.l0, if_pos (by omega), if_pos (by omega), if_pos (by omega), if_pos rfl, if_pos rfl, if_pos rfl, hw]
    exact SameP_l0 hl n (i + 1) k (by omega) (by omega) (by omega)
theorem SamePages_f {l : List S46} (hl : l.length < 140737488355328) : bulkheadref13_SamePages.f (l.length + 1) l l = some true := by
  unfold bulkheadref13_SamePages.f
  rw [if_pos rfl]
  exact SameP_l0 hl l.length 0 _ (by omega) (by omega) (by omega)
end Go.Proofs.Ytiinflgoflkomaa.LoadF
