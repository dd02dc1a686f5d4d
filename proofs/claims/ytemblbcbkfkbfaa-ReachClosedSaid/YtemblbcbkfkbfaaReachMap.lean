/- A map from whole numbers to yes and no that the call made: what is looked up in it. -/
import Derived.Test.YtemblbcbkfkbfaaReachOutG
import Derived.Maps.Own
import Derived.Maps.OwnOps
import Derived.Maps.OwnSet
namespace Go.Proofs.Ytemblbcbkfkbfaa.ReachMap
open Go.RowKit Go.Maps Go.Proofs.Ytemblbcbkfkbfaa.PReachGrows Go.Proofs.YtemblbcbkfkbfaaW.PrintWords Go.Proofs.Ytemblbcbkfkbfaa.Aid
set_option linter.unusedVariables false
/-- Block b is a map of at most n entries; s is what it answers. -/
def MapIs (w : World) (b n : Nat) (s : Int → Bool) : Prop :=
  ∃ D : DataW Unit, w.ownsMap Try.prog 3 (plainElem Try.prog 4) b n D ∧ IsMap D ∧ ∀ p : Int, (Lit.int .i64 p).wf = true → D.atKey (.int .i64 p) (.lit (.bool false)) = .lit (.bool (s p))
theorem law3 : Keyed Try.prog 3 := int_keyed Try.underlying3
theorem zero4 (w : World) : (zeroValue 4).run Try.prog w = .ok (.bool false) w := by kernel_rfl
theorem MapIs.kept {w w' : World} {b n : Nat} {s : Int → Bool} {row : Option Nat} (h : MapIs w b n s) (hg : w.grownBy w' row) (hne : some b ≠ row) : MapIs w' b n s := by
  obtain ⟨D, h1, h2, h3⟩ := h
  exact ⟨D, h1.kept hg hne, h2, h3⟩
theorem MapIs.below {w w' : World} {b n : Nat} {s : Int → Bool} (h : MapIs w b n s) (hb : Below w.heap.size w w') : MapIs w' b n s := h.kept (grown_of_below hb none) (by simp)
theorem MapIs.lt {w : World} {b n : Nat} {s : Int → Bool} (h : MapIs w b n s) : b < w.heap.size := by
  obtain ⟨D, h1, _⟩ := h
  exact h1.lt
theorem MapIs.look {w : World} {b n : Nat} {s : Int → Bool} (h : MapIs w b n s) {p : Int} (hp : (Lit.int .i64 p).wf = true) : (Instr.lookup 34 (.map (some b)) (.int .i64 p) false).run Try.prog w = .ok (.bool (s p)) w := by
  obtain ⟨D, h1, h2, h3⟩ := h
  obtain ⟨v, ps, hrun, hv⟩ := h1.lookup law3 Try.underlying34 (zero4 w) (plainElem_bool Try.underlying4 false) (keyOf_int_mk Try.underlying3 hp)
  rw [h3 p hp] at hv
  have e : v = .bool (s p) := by
    unfold plainElem at hv
    rw [Try.underlying4] at hv
    cases v with
    | bool x =>
      simp at hv
      rw [hv.1]
    | _ => cases hv
  rw [hrun, e]
theorem MapIs.made (w : World) : MapIs (w.alloc (.map #[] 0)) w.heap.size 0 (fun _ => false) :=
  ⟨_, World.ownsMap_made _ _ _ _, isMap_empty, fun _ _ => rfl⟩
theorem MapIs.put {w : World} {b n : Nat} {s : Int → Bool} (h : MapIs w b n s) (hn : n < 1000) {p : Int} (hp : (Lit.int .i64 p).wf = true) :
    ∃ w', (Instr.mapUpdate 34 (.map (some b)) (.int .i64 p) (.bool true)).run Try.prog w = .ok () w' ∧ MapIs w' b (n + 1) (fun q => s q || q == p) ∧ w.grownBy w' (some b) := by
  obtain ⟨D, h1, h2, h3⟩ := h
  obtain ⟨w', r0, r1, r2⟩ := h1.update law3 Try.underlying34 (by unfold maxLen; omega) (keyOf_int_mk Try.underlying3 hp) (plainElem_bool Try.underlying4 true)
  refine ⟨w', r0, ⟨_, r1, h2.put _ _, fun q hq => ?_⟩, r2⟩
  by_cases c : q = p
  · subst c
    rw [atKey_put_same h2 (by simp [WideAt.IsKeyLit])]
    simp
  · rw [atKey_put_other (by simpa using c), h3 q hq]
    simp [c]
end Go.Proofs.Ytemblbcbkfkbfaa.ReachMap
