/- An image's sections, opened by AidImg, as the row of records of the printed words. -/
import Derived.Test.YtiinflgoflkomaaPLoadChecksx0
import Derived.Test.YtiinflgoflkomaaAidImg
namespace Go.Proofs.Ytiinflgoflkomaa.LoadRec
set_option linter.unusedVariables false
open Go.RowKit Go.Proofs.Ytiinflgoflkomaa.PLoadChecks Go.Proofs.YtiinflgoflkomaaW.PrintWords Go.Proofs.Ytiinflgoflkomaa.AidImg
theorem bytes_row {w : World} {A : Option Addr} {n : Nat} {z : Nat → Int} (h : Bytes w A n z) (hn : n ≤ maxLen) : (Kd.int .u8).C w A n ((List.range n).map z) := by
  refine Kd.C_of_reads (d := (0 : Int)) (h1 := fun _ => rfl) ⟨by simp, hn, fun h0 => ?_⟩
  obtain ⟨b, off, hA, _, _⟩ := h 0 h0
  refine ⟨⟨b, off, none⟩, hA, fun k hk => ?_⟩
  have hk2 : k < n := by simpa using hk
  obtain ⟨b2, off2, hA2, hc, _⟩ := h k hk2
  rw [hA] at hA2
  obtain ⟨rfl, rfl⟩ : b = b2 ∧ off = off2 := by simpa using hA2
  rw [Go.WideShapes.add_plain]
  have e : ((List.range n).map z).getD k 0 = z k := by simp [hk2]
  rw [e]
  exact hc
def sec (s : Sec) : S45 := ⟨s.pg, s.pm, (List.range s.n).map s.z⟩
def secs (n : Nat) (S : Nat → Sec) : List S45 := (List.range n).map fun i => sec (S i)
theorem secs_length (n : Nat) (S : Nat → Sec) : (secs n S).length = n := by simp [secs]
theorem secs_row {w : World} {A : Option Addr} {n : Nat} {S : Nat → Sec} (h : Secs w A n S) (hn : n ≤ maxLen) (hn3 : n * 40 ≤ 140737488351232) : Kd.C k45 w A (secs n S).length (secs n S) := by
  refine ⟨rfl, by rw [secs_length]; omega, fun hp => ?_⟩
  rw [secs_length] at hp
  obtain ⟨⟨b, off, hA, _⟩, _⟩ := h 0 hp
  refine ⟨⟨b, off, none⟩, hA, fun j p hj => ?_⟩
  have hjn : j < n := by
    have := (List.getElem?_eq_some_iff.1 hj).1
    rwa [secs_length] at this
  have hp2 : p = sec (S j) := by
    have := (List.getElem?_eq_some_iff.1 hj).2
    simp [secs] at this
    exact this.symm
  subst hp2
  obtain ⟨⟨b2, off2, hA2, h0, h1, h2⟩, r1, r2, _, _, hz⟩ := h j hjn
  rw [hA] at hA2
  obtain ⟨rfl, rfl⟩ : b = b2 ∧ off = off2 := by simpa using hA2
  have hl : (sec (S j)).f2.length = (S j).n := by simp [sec]
  have hk := k45_mk w (sec (S j)) (A2 := (S j).A) (c2 := (S j).c) (by rw [hl]; exact r1) (by rw [hl]; exact bytes_row hz (Nat.le_trans r1 r2))
  rw [hl] at hk
  refine ⟨_, rfl, hk, fun i u hu => ?_⟩
  match i, hu with
  | 0, hu =>
    rw [Go.WideShapes.add_plain]
    exact h0.trans (by simpa [sec] using hu)
  | 1, hu =>
    rw [Go.WideShapes.add_plain, ← Nat.add_assoc]
    exact h1.trans (by simpa [sec] using hu)
  | 2, hu =>
    rw [Go.WideShapes.add_plain, ← Nat.add_assoc]
    exact h2.trans (by simpa [sec] using hu)
end Go.Proofs.Ytiinflgoflkomaa.LoadRec
