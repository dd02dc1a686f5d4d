/- An image's pages: plain, and the rows they lie in. -/
import Derived.Test.YtiinflgoflkomaaLoadEnc
import Derived.Laws.CopyOwn
namespace Go.Proofs.Ytiinflgoflkomaa.LoadPg
open Go.RowKit Go.Proofs.Ytiinflgoflkomaa.PLoadChecks Go.Proofs.YtiinflgoflkomaaW.PrintWords Go.Proofs.YtiinflgoflkomaaW.PrintLast Go.Proofs.YtiinflgoflkomaaW.PrintMore Go.Proofs.Ytiinflgoflkomaa.Aid Go.Proofs.Ytiinflgoflkomaa.LoadF Go.Proofs.Ytiinflgoflkomaa.LoadPure Go.Proofs.Ytiinflgoflkomaa.LoadEnc
set_option linter.unusedVariables false
set_option linter.unusedSimpArgs false
/-- A page's bytes: what there is of them, then noughts. -/
def pad (b : List Int) : List Int := b ++ List.replicate (256 - b.length) 0
def cut (b : List Int) (j : Nat) : List Int := (b.drop (j * 256)).take 256
theorem cut_le (b : List Int) (j : Nat) : (cut b j).length ≤ 256 := by
  unfold cut
  rw [List.length_take]
  exact Nat.min_le_left _ _
theorem pad_length {b : List Int} (h : b.length ≤ 256) : (pad b).length = 256 := by
  simp [pad]
  omega
def page (s : S45) (j : Nat) : S46 := ⟨s.f0 + (j : Int), s.f1, pad (cut s.f2 j)⟩
/-- How many pages a section has. -/
def np (s : S45) : Nat := (s.f2.length + 255) / 256
def pagesS (s : S45) : List S46 := (List.range (np s)).map (page s)
def pagesL (a : Int) (l : List S45) : List S46 := if imgL a l = 0 then l.flatMap pagesS else []
theorem pagesS_drop {s : S45} {j : Nat} (h : j < np s) : (pagesS s).drop j = page s j :: (pagesS s).drop (j + 1) := by
  have hl : j < (pagesS s).length := by simp [pagesS, h]
  rw [List.drop_eq_getElem_cons hl]
  congr 1
  simp [pagesS]
theorem pagesS_length (s : S45) : (pagesS s).length = np s := by simp [pagesS]
theorem pages_length : ∀ (l : List S45), (∀ s ∈ l, s.f2.length ≤ 16384) → (l.flatMap pagesS).length ≤ l.length * 64
  | [], _ => by simp
  | s :: r, h => by
    have h1 := h s (by simp)
    have h2 := pages_length r fun x hx => h x (by simp [hx])
    rw [List.flatMap_cons, List.length_append, pagesS_length, List.length_cons]
    unfold np
    omega
theorem pagesL_length {a : Int} {l : List S45} : (pagesL a l).length ≤ 1024 := by
  unfold pagesL
  split
  · rename_i h
    obtain ⟨_, _, h3, h4⟩ := imgL_ok h
    have := pages_length l fun s hs => (chkL_all l 0 (-1) (by omega) h4 s hs).2.2.2.2.2
    omega
  · simp
theorem endP_np {s : S45} (h : 1 ≤ s.f2.length) : endP s.f0 s.f2.length = s.f0 + (np s : Int) - 1 := by
  unfold endP np
  omega
theorem made_open {w : World} {base : Nat} {ok : Nat → Prop} {v : Value} (h : (Kd.int .u8).R 5 w base ok v (List.replicate 256 (0 : Int))) :
    ∃ (g cap : Nat) (cur : List Value), v = .slice (some ⟨g, 0, none⟩) 256 cap ∧ base ≤ g ∧ w.heap[g]? = some (.cells cur.toArray 5 (0, 0)) ∧ 256 ≤ cap ∧ cap ≤ maxLen ∧ cur.length = cap ∧ cur.take 256 = List.replicate 256 (Value.int .u8 0) := by
  have ho := Kd.own_of_R h
  have hl : (List.replicate 256 (0 : Int)).length = 256 := List.length_replicate
  rw [hl] at ho
  have he : encs (fun n => Value.int .u8 n) (List.replicate 256 (0 : Int)) = List.replicate 256 (Value.int .u8 0) := List.map_replicate
  obtain ⟨_, h2 | ⟨g, cap, cur, h3, h4, h5, h6, h7, h8, h9⟩⟩ := ho
  · obtain ⟨_, h0⟩ := h2
    exact absurd h0 (by decide)
  · refine ⟨g, cap, cur.toList, h3, h4, by rw [h5], h6, h7, by rw [Array.length_toList, h8, Nat.mul_one], ?_⟩
    rw [← he, ← h9, Nat.mul_one]
theorem page_row {w : World} {base g cap : Nat} {cur : List Value} {b : List Int} (hb : b.length ≤ 256) (hg : base ≤ g) (hc : 256 ≤ cap) (hm : cap ≤ maxLen) (hl : cur.length = cap) (ht : cur.take 256 = List.replicate 256 (Value.int .u8 0))
    (hh : w.heap[g]? = some (.cells (splice cur 0 (b.map fun n => Value.int .u8 n)).toArray 5 (0, 0))) : (Kd.int .u8).R 5 w base (fun k => k = g) (.slice (some ⟨g, 0, none⟩) 256 cap) (pad b) := by
  have hp := pad_length hb
  have e : (pad b).length = 256 := hp
  refine Kd.R_of_own (enc := fun n => Value.int .u8 n) ?_ (fun k hk => by simpa [Value.ownBlock] using hk.symm)
  refine ⟨by simp [encs], .inr ⟨g, cap, _, by rw [e], hg, hh, by rw [e]; exact hc, hm, ?_, ?_⟩⟩
  · rw [List.size_toArray, length_splice _ _ _ (by simp; omega), hl, Nat.mul_one]
  · rw [Nat.mul_one, e]
    show (splice cur 0 (b.map fun n => Value.int .u8 n)).take 256 = encs _ (pad b)
    have e1 : splice cur 0 (b.map fun n => Value.int .u8 n) = (b.map fun n => Value.int .u8 n) ++ cur.drop b.length := by simp [splice]
    have e2 : (cur.drop b.length).take (256 - b.length) = List.replicate (256 - b.length) (Value.int .u8 0) := by
      rw [← List.drop_take, ht, List.drop_replicate]
    rw [e1, List.take_append, List.take_of_length_le (by simpa using hb), List.length_map, e2]
    simp [encs, pad]
theorem cut_cells {w : World} {ad : Addr} {b : List Int} (h : (Kd.int .u8).C w (some ad) b.length b) {j : Nat} (hj : j * 256 < b.length) :
    ∀ i v, ((cut b j).map fun n => Value.int .u8 n)[i]? = some v → w.cell? ((ad.add (j * 256)).add i) = some v := by
  intro i v hv
  obtain ⟨ad', h1, h2⟩ := h.2.2 (by omega)
  obtain rfl : ad = ad' := by simpa using h1
  rw [List.getElem?_map] at hv
  obtain ⟨x, hx, rfl⟩ := Option.map_eq_some_iff.1 hv
  have hx2 : b[j * 256 + i]? = some x := by
    unfold cut at hx
    rw [List.getElem?_take] at hx
    split at hx
    · rwa [List.getElem?_drop] at hx
    · cases hx
  obtain ⟨c, _, hK, hc⟩ := h2 (j * 256 + i) x hx2
  have e : c = [Value.int .u8 x] := hK
  have h0 := hc 0 (.int .u8 x) (by rw [e]; rfl)
  have e2 : (Kd.int IntKind.u8).sz = 1 := rfl
  rw [e2, Nat.mul_one, Nat.add_zero] at h0
  rw [← h0]
  congr 1
  generalize j * 256 = k
  unfold Addr.add
  by_cases q0 : k = 0
  · subst q0
    simp
  · by_cases q1 : i = 0
    · subst q1
      simp
    · have q2 : k + i ≠ 0 := by omega
      simp [q0, q1, q2, Nat.add_assoc]
theorem info46 : (Try.prog.info? 46).map (fun i => (i.zero, i.size, i.bytes)) = some (some (.agg #[(.int .i64 0), (.int .i64 0), (.slice none 0 0)]), 3, 40) := by kernel_rfl
theorem size5 : (Try.prog.info? 5).map (·.size) = some 1 := by kernel_rfl
theorem cut_length (b : List Int) (j : Nat) : (cut b j).length = Nat.min (b.length - j * 256) 256 := by
  unfold cut
  rw [List.length_take, List.length_drop]
  exact Nat.min_comm _ _
theorem u8_one (l : List Int) : ∀ v ∈ (l.map fun n => Value.int .u8 n), v.oneCell' = true := by
  intro v hv
  obtain ⟨x, _, rfl⟩ := List.mem_map.1 hv
  rfl
theorem below_weak {B C : Nat} {w w' : World} (h : Below B w w') (hC : C ≤ B) : Below C w w' := ⟨h.os, h.tape, h.output, h.size, fun k hk => h.block k (by omega)⟩
end Go.Proofs.Ytiinflgoflkomaa.LoadPg
