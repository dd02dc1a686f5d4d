/- How many frames an image's pages want: plain. -/
import Derived.Test.YtiinflgoflkomaaLoadPages
import Derived.Test.YtiinflgoflkomaaLoadRPages
namespace Go.Proofs.Ytiinflgoflkomaa.LoadFr
open Go.RowKit Go.Proofs.Ytiinflgoflkomaa.PLoadChecks Go.Proofs.YtiinflgoflkomaaW.PrintWords Go.Proofs.YtiinflgoflkomaaW.PrintLast Go.Proofs.YtiinflgoflkomaaW.PrintMore Go.Proofs.Ytiinflgoflkomaa.Aid Go.Proofs.Ytiinflgoflkomaa.LoadF Go.Proofs.Ytiinflgoflkomaa.LoadSame2 Go.Proofs.Ytiinflgoflkomaa.LoadEnc Go.Proofs.Ytiinflgoflkomaa.LoadPure Go.Proofs.Ytiinflgoflkomaa.LoadPg
set_option linter.unusedVariables false
set_option linter.unusedSimpArgs false
def fr : Int → Int → List S46 → Int
  | _, n, [] => n
  | last, n, p :: r => if Int.tdiv p.f0 64 = last then fr last (n + 1) r else fr (Int.tdiv p.f0 64) (n + 2) r
def framesL (a : Int) (l : List S45) : Int := if imgL a l = 0 then fr (-1) 1 (pagesL a l) else 0
theorem pages_ge {a : Int} {l : List S45} : ∀ p ∈ pagesL a l, 0 ≤ p.f0 ∧ p.f0 < 8192 := by
  intro p hp
  unfold pagesL at hp
  split at hp
  · rename_i h
    obtain ⟨_, _, _, h4⟩ := imgL_ok h
    obtain ⟨s, hs, hp⟩ := List.mem_flatMap.1 hp
    have hb := chkL_all l 0 (-1) (by omega) h4 s hs
    unfold pagesS at hp
    obtain ⟨j, hj, rfl⟩ := List.mem_map.1 hp
    have hj := List.mem_range.1 hj
    unfold np at hj
    unfold page
    simp only
    omega
  · simp at hp
theorem rdp_drop {l : List S46} {i : Nat} (h : i < l.length) : l.drop i = rd_T46 l (i : Int) :: l.drop (i + 1) := by
  rw [List.drop_eq_getElem_cons h]
  simp [rd_T46, h]
theorem rdp_mem {l : List S46} {i : Nat} (h : i < l.length) : rd_T46 l (i : Int) ∈ l := by
  have : rd_T46 l (i : Int) = l[i] := by simp [rd_T46, h]
  rw [this]
  exact List.getElem_mem h
end Go.Proofs.Ytiinflgoflkomaa.LoadFr
