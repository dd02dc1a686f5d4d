/- Frame tables: what is wrong with one, and how it lies in memory. -/
import Derived.Test.YtagnlbpndldfeaaPSchedPlaysx0
import Derived.Test.YtagnlbpndldfeaaAid
namespace Go.Proofs.Ytagnlbpndldfeaa.PlanBase
open Go.RowKit Go.Proofs.Ytagnlbpndldfeaa.PSchedPlays Go.Proofs.YtagnlbpndldfeaaW.PrintWords Go.Proofs.YtagnlbpndldfeaaW.PrintLast Go.Proofs.YtagnlbpndldfeaaW.PrintMore Go.Proofs.Ytagnlbpndldfeaa.Aid

/-- What is wrong with windows, behind a place. -/
def chk (M : Int) : Int → List S45 → Int
  | _, [] => 0
  | e, x :: t => if x.f1 < 0 ∨ x.f2 < 1 ∨ x.f1 > M ∨ x.f2 > M - x.f1 then 2 else if x.f1 < e then 140 else chk M (x.f1 + x.f2) t
/-- What is wrong with a frame table. -/
def newE (M G : Int) (l : List S45) : Int := if M < 1 ∨ M > 16777216 ∨ G < 0 ∨ G > 16777216 then 2 else if l.length > 32 then 9 else chk M 0 l
/-- A frame table in memory. -/
def Plan (T : Nat) (w : World) (g : Nat) (M G : Int) (l : List S45) : Prop := ∃ A c, w.heap[g]? = some (.cells #[.int .i64 M, .int .i64 G, .slice A l.length c] T (0, 0)) ∧ Kd.C k45 w A l.length l ∧ l.length ≤ c
theorem Plan.below {T : Nat} {w w1 : World} {g : Nat} {M G : Int} {l : List S45} (h : Plan T w g M G l) (hb : Below w.heap.size w w1) : Plan T w1 g M G l := by
  obtain ⟨A, c, h1, h2, h3⟩ := h
  exact ⟨A, c, (hb.block g (blk_lt h1)).trans h1, Kd.C_below h2 hb, h3⟩
/-- What a call of New comes to. -/
def NewPost (T : Nat) (w : World) (M G : Int) (l : List S45) (E : Int) (e : Ending) (w' : World) : Prop :=
  Below w.heap.size w w' ∧ ((E ≠ 0 ∧ e = .returned (.tuple #[.pointer none, .int .i64 E])) ∨ (E = 0 ∧ ∃ g : Nat, e = .returned (.tuple #[.pointer (some ⟨g, 0, none⟩), .int .i64 0]) ∧ w.heap.size ≤ g ∧ Plan T w' g M G l))
theorem drop_rd (l : List S45) (i : Nat) (h : i < l.length) : l.drop i = rd_T45 l (i : Int) :: l.drop (i + 1) := by
  rw [List.drop_eq_getElem_cons h]
  simp [rd_T45, h]
theorem rd_mem (l : List S45) (i : Nat) (h : i < l.length) : rd_T45 l (i : Int) ∈ l := by
  have : rd_T45 l (i : Int) = l[i] := by simp [rd_T45, h]
  rw [this]
  exact List.getElem_mem h
end Go.Proofs.Ytagnlbpndldfeaa.PlanBase
