/- No cycle belongs to two windows: the plain law. -/
import Derived.Test.YtigifaccmcggdaaPlanCalls
namespace Go.Proofs.Ytigifaccmcggdaa.PlanOnePure
open Go.RowKit Go.Proofs.Ytigifaccmcggdaa.PPlanCycles Go.Proofs.Ytigifaccmcggdaa.PlanBase Go.Proofs.Ytigifaccmcggdaa.PlanAt Go.Proofs.Ytigifaccmcggdaa.PlanCalls

/-- How many windows hold a place, and the last of them. -/
def cntw (x : Int) : Nat → Int → Int → List S35 → Int × Int
  | _, n, wh, [] => (n, wh)
  | i, n, wh, y :: r => if y.f1 ≤ x ∧ x < y.f1 + y.f2 then cntw x (i + 1) (n + 1) (i : Int) r else cntw x (i + 1) n wh r
theorem cntw_past {x : Int} : ∀ {l : List S35} {e : Int} (i : Nat) (n wh : Int), (∀ y ∈ l, 1 ≤ y.f2) → Ord e l → x < e → cntw x i n wh l = (n, wh)
  | [], _, _, _, _, _, _, _ => rfl
  | y :: r, e, i, n, wh, h1, h2, h3 => by
    have hy := h1 y (List.mem_cons_self ..)
    have := h2.1
    rw [cntw, if_neg (by omega)]
    exact cntw_past (i + 1) n wh (fun z hz => h1 z (List.mem_cons_of_mem _ hz)) h2.2 (by omega)
theorem cntw_is {x : Int} : ∀ {l : List S35} {e : Int} (i : Nat) (n wh : Int), (∀ y ∈ l, 1 ≤ y.f2) → Ord e l → cntw x i n wh l = (match atIdx x i l with | none => (n, wh) | some j => (n + 1, (j : Int)))
  | [], _, _, _, _, _, _ => rfl
  | y :: r, e, i, n, wh, h1, h2 => by
    by_cases h : y.f1 ≤ x ∧ x < y.f1 + y.f2
    · rw [cntw, atIdx, if_pos h, if_pos h]
      exact cntw_past (i + 1) _ _ (fun z hz => h1 z (List.mem_cons_of_mem _ hz)) h2.2 h.2
    · rw [cntw, atIdx, if_neg h, if_neg h]
      exact cntw_is (i + 1) n wh (fun z hz => h1 z (List.mem_cons_of_mem _ hz)) h2.2
theorem cntw_at {M x : Int} {l : List S35} (hF : Fit M l) (hO : Ord 0 l) : cntw x 0 0 (-1) l = (if (atIdx x 0 l).isSome then 1 else 0, idxOf (atIdx x 0 l)) := by
  rw [cntw_is 0 0 (-1) (fun y hy => (hF.2.2.2 y hy).2.2.1) hO]
  cases atIdx x 0 l <;> rfl
end Go.Proofs.Ytigifaccmcggdaa.PlanOnePure
