/- What a look at an image comes to. Plain Lean. -/
import Derived.Test.YtiinflgoflkomaaAidImg
namespace Go.Proofs.Ytiinflgoflkomaa.LoadPure
set_option linter.unusedVariables false
open Go.Proofs.Ytiinflgoflkomaa.AidImg
/-- A section's last page. -/
def endP (pg : Int) (n : Nat) : Int := pg + ((n : Int) - 1) / 256
def secE (pg pm : Int) (n : Nat) (T L : Int) : Int :=
  if pg < 0 ∨ 4096 ≤ pg ∨ pm < 1 ∨ 7 < pm ∨ n = 0 then 6
  else if 16384 < T + n then 9
  else if 4096 ≤ endP pg n then 2
  else if pg ≤ L then 140 else 0
def chk : Int → Int → List Sec → Int
  | _, _, [] => 0
  | T, L, s :: r => if secE s.pg s.pm s.n T L ≠ 0 then secE s.pg s.pm s.n T L else chk (T + s.n) (endP s.pg s.n) r
def imgE (entry : Int) (l : List Sec) : Int := if entry % 4 ≠ 0 ∨ 1048576 ≤ entry then 6 else if 16 < l.length then 9 else chk 0 (-1) l
/-- What a section that is well keeps. -/
theorem secE_ok {pg pm : Int} {n : Nat} {T L : Int} (h : secE pg pm n T L = 0) : 0 ≤ pg ∧ pg < 4096 ∧ 1 ≤ pm ∧ pm ≤ 7 ∧ 1 ≤ n ∧ T + n ≤ 16384 ∧ endP pg n < 4096 ∧ L < pg := by
  unfold secE at h
  split at h
  · cases h
  · split at h
    · cases h
    · split at h
      · cases h
      · split at h
        · cases h
        · omega
theorem endP_ge {pg : Int} {n : Nat} (h : 1 ≤ n) : pg ≤ endP pg n := by
  unfold endP
  omega
/-- The document's last page is the same. -/
theorem endP_ref {pg : Int} {n : Nat} (h : 1 ≤ n) : pg + ((n : Int) + 255) / 256 - 1 = endP pg n := by
  unfold endP
  omega
/-- The sections, as a list. -/
def secs (n : Nat) (S : Nat → Sec) : List Sec := (List.range n).map S
theorem secs_length (n : Nat) (S : Nat → Sec) : (secs n S).length = n := by simp [secs]
theorem secs_drop {n : Nat} {S : Nat → Sec} {i : Nat} (h : i < n) : (secs n S).drop i = S i :: (secs n S).drop (i + 1) := by
  have hl : i < (secs n S).length := by rw [secs_length]; exact h
  rw [List.drop_eq_getElem_cons hl]
  congr 1
  simp [secs]
/-- The look goes on behind a section that is well; else it ends there. -/
theorem chk_step {n : Nat} {S : Nat → Sec} {i : Nat} {T L : Int} (h : i < n) (h0 : secE (S i).pg (S i).pm (S i).n T L = 0) : chk T L ((secs n S).drop i) = chk (T + (S i).n) (endP (S i).pg (S i).n) ((secs n S).drop (i + 1)) := by
  rw [secs_drop h]
  show (if _ then _ else _) = _
  rw [if_neg (fun h2 => h2 h0)]
theorem chk_stop {n : Nat} {S : Nat → Sec} {i : Nat} {T L : Int} (h : i < n) (h0 : secE (S i).pg (S i).pm (S i).n T L ≠ 0) : chk T L ((secs n S).drop i) = secE (S i).pg (S i).pm (S i).n T L := by
  rw [secs_drop h]
  show (if _ then _ else _) = _
  rw [if_pos h0]
theorem chk_end {n : Nat} {S : Nat → Sec} {T L : Int} : chk T L ((secs n S).drop n) = 0 := by
  rw [List.drop_of_length_le (by rw [secs_length]; exact Nat.le_refl _)]
  rfl
end Go.Proofs.Ytiinflgoflkomaa.LoadPure
