/- A configuration's three lists, opened by AidRows, as rows of records of the printed words. -/
import Derived.Test.YtemblbcbkfkbfaaPReachGrowsx0
import Derived.Test.YtemblbcbkfkbfaaAidCfg
import Derived.Test.YtemblbcbkfkbfaaAid
namespace Go.Proofs.Ytemblbcbkfkbfaa.ReachRecG
open Go.RowKit Go.Proofs.Ytemblbcbkfkbfaa.PReachGrows Go.Proofs.YtemblbcbkfkbfaaW.PrintWords Go.Proofs.Ytemblbcbkfkbfaa.AidRows
set_option linter.unusedVariables false
theorem row_of {α : Type} {d : Kd α} {Ks : List IntKind} (hs : d.sz = Ks.length) {w : World} {A : Option Addr} {n : Nat} {X : Nat → Nat → Int} (f : Nat → α) (cs : Nat → List Value) (hK : ∀ i, d.K w (f i) (cs i)) (hc : ∀ (i m : Nat) (u : Value), (cs i)[m]? = some u → ∃ k, Ks[m]? = some k ∧ u = Value.int k (X i m)) (k0 : ∃ k, Ks[0]? = some k)
    (h : Recs w A n Ks X) (hn : n ≤ 140737488351232) : d.C w A ((List.range n).map f).length ((List.range n).map f) := by
  have hl : ((List.range n).map f).length = n := by simp
  refine ⟨rfl, by rw [hl]; omega, fun hp => ?_⟩
  rw [hl] at hp
  obtain ⟨k, hk⟩ := k0
  obtain ⟨b, off, hA, _, _⟩ := h 0 0 k hp hk
  refine ⟨⟨b, off, none⟩, hA, fun j p hj => ?_⟩
  have hjn : j < n := by
    have := (List.getElem?_eq_some_iff.1 hj).1
    rwa [hl] at this
  have hp2 : p = f j := by
    have := (List.getElem?_eq_some_iff.1 hj).2
    simpa using this.symm
  subst hp2
  refine ⟨cs j, d.K_len (hK j), hK j, fun i u hu => ?_⟩
  obtain ⟨k, hk, rfl⟩ := hc j i u hu
  obtain ⟨b2, off2, hA2, hcl, _⟩ := h j i k hjn hk
  rw [hA] at hA2
  obtain ⟨rfl, rfl⟩ : b = b2 ∧ off = off2 := by simpa using hA2
  rw [Go.WideShapes.add_plain, ← Nat.add_assoc, hs]
  exact hcl
def parts (n : Nat) (X : Nat → Nat → Int) : List S58 := (List.range n).map fun i => ⟨X i 0, X i 1, X i 2⟩
def wins (n : Nat) (X : Nat → Nat → Int) : List S60 := (List.range n).map fun i => ⟨X i 0, X i 1, X i 2⟩
def chans (n : Nat) (X : Nat → Nat → Int) : List S31 := (List.range n).map fun i => ⟨X i 0, X i 1, X i 2, X i 3, X i 4⟩
theorem parts_length (n : Nat) (X : Nat → Nat → Int) : (parts n X).length = n := by simp [parts]
theorem wins_length (n : Nat) (X : Nat → Nat → Int) : (wins n X).length = n := by simp [wins]
theorem chans_length (n : Nat) (X : Nat → Nat → Int) : (chans n X).length = n := by simp [chans]
theorem three (X : Nat → Nat → Int) (i m : Nat) (u : Value) (h : [Value.int .i64 (X i 0), .int .i64 (X i 1), .int .i64 (X i 2)][m]? = some u) : ∃ k, [IntKind.i64, .i64, .i64][m]? = some k ∧ u = Value.int k (X i m) := by
  match m, h with
  | 0, h => exact ⟨_, rfl, by simpa using h.symm⟩
  | 1, h => exact ⟨_, rfl, by simpa using h.symm⟩
  | 2, h => exact ⟨_, rfl, by simpa using h.symm⟩
theorem five (X : Nat → Nat → Int) (i m : Nat) (u : Value) (h : [Value.int .i64 (X i 0), .int .i64 (X i 1), .int .i64 (X i 2), .int .i64 (X i 3), .int .i64 (X i 4)][m]? = some u) : ∃ k, [IntKind.i64, .i64, .i64, .i64, .i64][m]? = some k ∧ u = Value.int k (X i m) := by
  match m, h with
  | 0, h => exact ⟨_, rfl, by simpa using h.symm⟩
  | 1, h => exact ⟨_, rfl, by simpa using h.symm⟩
  | 2, h => exact ⟨_, rfl, by simpa using h.symm⟩
  | 3, h => exact ⟨_, rfl, by simpa using h.symm⟩
  | 4, h => exact ⟨_, rfl, by simpa using h.symm⟩
theorem parts_row {w : World} {A : Option Addr} {n : Nat} {X : Nat → Nat → Int} (h : Recs w A n [.i64, .i64, .i64] X) (hn : n ≤ 140737488351232) : Kd.C k58 w A (parts n X).length (parts n X) :=
  row_of (d := k58) rfl (fun i => ⟨X i 0, X i 1, X i 2⟩) (fun i => [.int .i64 (X i 0), .int .i64 (X i 1), .int .i64 (X i 2)]) (fun i => k58_mk w _) (three X) ⟨_, rfl⟩ h hn
theorem wins_row {w : World} {A : Option Addr} {n : Nat} {X : Nat → Nat → Int} (h : Recs w A n [.i64, .i64, .i64] X) (hn : n ≤ 140737488351232) : Kd.C k60 w A (wins n X).length (wins n X) :=
  row_of (d := k60) rfl (fun i => ⟨X i 0, X i 1, X i 2⟩) (fun i => [.int .i64 (X i 0), .int .i64 (X i 1), .int .i64 (X i 2)]) (fun i => k60_mk w _) (three X) ⟨_, rfl⟩ h hn
theorem chans_row {w : World} {A : Option Addr} {n : Nat} {X : Nat → Nat → Int} (h : Recs w A n [.i64, .i64, .i64, .i64, .i64] X) (hn : n ≤ 140737488351232) : Kd.C k31 w A (chans n X).length (chans n X) :=
  row_of (d := k31) rfl (fun i => ⟨X i 0, X i 1, X i 2, X i 3, X i 4⟩) (fun i => [.int .i64 (X i 0), .int .i64 (X i 1), .int .i64 (X i 2), .int .i64 (X i 3), .int .i64 (X i 4)]) (fun i => k31_mk w _) (five X) ⟨_, rfl⟩ h hn
end Go.Proofs.Ytemblbcbkfkbfaa.ReachRecG
