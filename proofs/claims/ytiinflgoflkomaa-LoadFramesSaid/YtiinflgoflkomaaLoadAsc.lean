/- An image's pages rise; the tables they are in, as a map: plain, and what the map answers. -/
import Derived.Test.YtiinflgoflkomaaLoadWorks
import Derived.Maps.Own
import Derived.Maps.OwnOps
import Derived.Maps.OwnSet
import Derived.Maps.Views
namespace Go.Proofs.Ytiinflgoflkomaa.LoadAsc
open Go.RowKit Go.Maps Go.Proofs.Ytiinflgoflkomaa.PLoadChecks Go.Proofs.YtiinflgoflkomaaW.PrintWords Go.Proofs.Ytiinflgoflkomaa.Aid Go.Proofs.Ytiinflgoflkomaa.LoadF Go.Proofs.Ytiinflgoflkomaa.LoadEnc Go.Proofs.Ytiinflgoflkomaa.LoadPure Go.Proofs.Ytiinflgoflkomaa.LoadPg Go.Proofs.Ytiinflgoflkomaa.LoadFr
set_option linter.unusedVariables false
set_option linter.unusedSimpArgs false
theorem pages_sorted : ∀ (l : List S45) (T L : Int), 0 ≤ T → chkL T L l = 0 → (l.flatMap pagesS).Pairwise (fun p q => p.f0 < q.f0) ∧ ∀ p ∈ l.flatMap pagesS, L < p.f0 ∧ p.f0 < 4096 ∧ 1 ≤ p.f1 ∧ p.f1 ≤ 7 ∧ p.f2.length = 256
  | [], _, _, _, _ => ⟨List.Pairwise.nil, fun p hp => by simp at hp⟩
  | s :: r, T, L, hT, h => by
    have h' : (if rowE s T L ≠ 0 then rowE s T L else chkL (T + s.f2.length) (endP s.f0 s.f2.length) r) = 0 := h
    by_cases h0 : rowE s T L = 0
    · rw [if_neg (fun h => h h0)] at h'
      have ok := secE_ok h0
      obtain ⟨h1, h2⟩ := pages_sorted r _ _ (by omega) h'
      have hE := endP_np (s := s) ok.2.2.2.2.1
      have key : ∀ p ∈ pagesS s, s.f0 ≤ p.f0 ∧ p.f0 ≤ endP s.f0 s.f2.length ∧ p.f1 = s.f1 ∧ p.f2.length = 256 := by
        intro p hp
        obtain ⟨j, hj, rfl⟩ := List.mem_map.1 hp
        have hj := List.mem_range.1 hj
        unfold page
        simp only
        exact ⟨by omega, by omega, trivial, pad_length (cut_le s.f2 j)⟩
      rw [List.flatMap_cons]
      refine ⟨List.pairwise_append.2 ⟨?_, h1, fun p hp q hq => ?_⟩, fun p hp => ?_⟩
      · unfold pagesS
        rw [List.pairwise_map]
        refine List.Pairwise.imp (fun {a b} hab => ?_) List.pairwise_lt_range
        unfold page
        simp only
        omega
      · have a1 := key p hp
        have a2 := (h2 q hq).1
        omega
      · rcases List.mem_append.1 hp with hp | hp
        · have a1 := key p hp
          refine ⟨by omega, by omega, ?_, ?_, a1.2.2.2⟩
          · rw [a1.2.2.1]
            exact ok.2.2.1
          · rw [a1.2.2.1]
            exact ok.2.2.2.1
        · have a2 := h2 p hp
          have := endP_ge (pg := s.f0) ok.2.2.2.2.1
          exact ⟨by omega, a2.2⟩
    · rw [if_pos h0] at h'
      exact absurd h' h0
theorem pagesL_sorted {a : Int} {l : List S45} : (pagesL a l).Pairwise (fun p q => p.f0 < q.f0) ∧ ∀ p ∈ pagesL a l, 0 ≤ p.f0 ∧ p.f0 < 4096 ∧ 1 ≤ p.f1 ∧ p.f1 ≤ 7 ∧ p.f2.length = 256 := by
  unfold pagesL
  split
  · rename_i h
    obtain ⟨_, _, _, h4⟩ := imgL_ok h
    obtain ⟨h1, h2⟩ := pages_sorted l 0 (-1) (by omega) h4
    exact ⟨h1, fun p hp => ⟨by have := (h2 p hp).1; omega, (h2 p hp).2⟩⟩
  · exact ⟨List.Pairwise.nil, fun p hp => by simp at hp⟩
theorem asc_at {y : List S46} (h : y.Pairwise (fun p q => p.f0 < q.f0)) {k : Nat} (hk : k + 1 < y.length) : (rd_T46 y (k : Int)).f0 < (rd_T46 y ((k + 1 : Nat) : Int)).f0 := by
  have h1 := List.pairwise_iff_getElem.1 h k (k + 1) (by omega) hk (by omega)
  have e1 : rd_T46 y (k : Int) = y[k] := by simp [rd_T46, show k < y.length by omega]
  have e2 : rd_T46 y ((k + 1 : Nat) : Int) = y[k + 1] := by
    unfold rd_T46
    rw [Int.toNat_natCast, List.getD_eq_getElem?_getD, List.getElem?_eq_getElem hk]
    rfl
  rw [e1, e2]
  exact h1
/-- Block b is a map of at most n entries, cnt in all; none above last; last is one, if there are any. -/
def MapIs (w : World) (b n cnt : Nat) (last : Int) : Prop :=
  ∃ D : DataW Unit, w.ownsMap Try.prog 3 (plainElem Try.prog 4) b n D ∧ Tidy D ∧ size D = cnt ∧ (∀ q : Int, has D (.int .i64 q) = true → q ≤ last) ∧ (0 < cnt → has D (.int .i64 last) = true)
theorem law3 : Keyed Try.prog 3 := int_keyed Try.underlying3
theorem MapIs.kept {w w' : World} {b n cnt : Nat} {last : Int} {row : Option Nat} (h : MapIs w b n cnt last) (hg : w.grownBy w' row) (hne : some b ≠ row) : MapIs w' b n cnt last := by
  obtain ⟨D, h1, h2⟩ := h
  exact ⟨D, h1.kept hg hne, h2⟩
theorem MapIs.below {w w' : World} {b n cnt : Nat} {last : Int} (h : MapIs w b n cnt last) (hb : Below w.heap.size w w') : MapIs w' b n cnt last := h.kept (grown_of_below hb none) (by simp)
theorem MapIs.made (w : World) : MapIs (w.alloc (.map #[] 0)) w.heap.size 0 0 (-1) :=
  ⟨_, World.ownsMap_made _ _ _ _, tidy_empty, rfl, fun q hq => by simp [has] at hq, fun h => absurd h (by omega)⟩
theorem MapIs.len {w : World} {b n cnt : Nat} {last : Int} (h : MapIs w b n cnt last) (ty : TypeId) : (Builtin.len_ #[48] ty #[.map (some b)]).run Try.prog w = .ok (.int .i64 (cnt : Int)) w := by
  obtain ⟨D, h1, _, h3, _⟩ := h
  rw [h1.len Try.underlying48 ty, h3]
theorem MapIs.put {w : World} {b n cnt : Nat} {last : Int} (h : MapIs w b n cnt last) (hn : n < 10000) {p : Int} (hp : (Lit.int .i64 p).wf = true) (hl : last ≤ p) (h0 : cnt = 0 → last < p) :
    ∃ w', (Instr.mapUpdate 48 (.map (some b)) (.int .i64 p) (.bool true)).run Try.prog w = .ok () w' ∧ MapIs w' b (n + 1) (if p = last then cnt else cnt + 1) p ∧ w.grownBy w' (some b) := by
  obtain ⟨D, h1, h2, h3, h4, h5⟩ := h
  obtain ⟨w', r0, r1, r2⟩ := h1.update law3 Try.underlying48 (by unfold maxLen; omega) (keyOf_int_mk Try.underlying3 hp) (plainElem_bool Try.underlying4 true)
  have hk : WideAt.IsKeyLit (Lit.int .i64 p) := by simp [WideAt.IsKeyLit]
  refine ⟨w', r0, ⟨_, r1, h2.put hk _, ?_, fun q hq => ?_, fun _ => has_put_same h2.isMap hk _⟩, r2⟩
  · rw [size_put h2, h3]
    by_cases c : p = last
    · have hc : 0 < cnt := by
        rcases Nat.eq_zero_or_pos cnt with h | h
        · have := h0 h
          omega
        · exact h
      have : has D (.int .i64 p) = true := by rw [c]; exact h5 hc
      rw [if_pos this, if_pos c]
    · have : has D (.int .i64 p) = false := by
        cases hh : has D (.int .i64 p) with
        | false => rfl
        | true =>
          have := h4 p hh
          omega
      rw [this, if_neg c]
      rfl
  · by_cases c : q = p
    · omega
    · rw [has_put_other (by simpa using c)] at hq
      have := h4 q hq
      omega
end Go.Proofs.Ytiinflgoflkomaa.LoadAsc
