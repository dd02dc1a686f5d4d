/- The methods of a frame table, each by one contract: no case is left to the caller. -/
import Derived.Test.YtagnlbpndldfeaaSPlanStart
namespace Go.Proofs.Ytagnlbpndldfeaa.SPlanCalls
open Go.RowKit Go.Proofs.Ytagnlbpndldfeaa.PSchedPlays Go.Proofs.YtagnlbpndldfeaaW.PrintWords Go.Proofs.YtagnlbpndldfeaaW.PrintLast Go.Proofs.YtagnlbpndldfeaaW.PrintMore Go.Proofs.Ytagnlbpndldfeaa.Aid Go.Proofs.Ytagnlbpndldfeaa.PlanBase Go.Proofs.Ytagnlbpndldfeaa.SPlanAt Go.Proofs.Ytagnlbpndldfeaa.SPlanStart

/-- Windows in order, from a place on. -/
def Ord : Int → List S45 → Prop
  | _, [] => True
  | e, x :: t => e ≤ x.f1 ∧ Ord (x.f1 + x.f2) t
theorem chk_fit {M : Int} : ∀ {l : List S45} {e : Int}, chk M e l = 0 → (∀ x ∈ l, 0 ≤ x.f1 ∧ x.f1 ≤ M ∧ 1 ≤ x.f2 ∧ x.f2 ≤ M - x.f1) ∧ Ord e l
  | [], _, _ => ⟨fun x hx => (by cases hx), trivial⟩
  | y :: t, e, h => by
    rw [chk] at h
    split at h
    · simp at h
    · split at h
      · simp at h
      · obtain ⟨h1, h2⟩ := chk_fit h
        refine ⟨fun x hx => ?_, ⟨by omega, h2⟩⟩
        rcases List.mem_cons.1 hx with rfl | hx
        · omega
        · exact h1 x hx
theorem fit_of {M G : Int} {l : List S45} (h : newE M G l = 0) : Fit M l ∧ Ord 0 l := by
  unfold newE at h
  split at h
  · simp at h
  · split at h
    · simp at h
    · obtain ⟨h1, h2⟩ := chk_fit h
      exact ⟨⟨by omega, by omega, by omega, h1⟩, h2⟩
def atR (M : Int) (l : List S45) (t : Int) : Int × Int × Bool := if t < 0 ∨ 281474976710656 < t then (0, -1, false) else (t / M, idxOf (atIdx (t % M) 0 l), (atIdx (t % M) 0 l).isSome)
def nextR (M : Int) (l : List S45) (t : Int) : Int × Int × Int := if t < 0 ∨ 281474976710656 < t ∨ l.length = 0 then (0, 0, 2) else (nextMaj (t / M) (nextIdx (t % M) 0 l), nextWin (nextIdx (t % M) 0 l), 0)
variable (g : Nat) (M G : Int) (l : List S45) (w : World)
theorem next_calls (t : Int) (hP : Plan 90 w g M G l) (hF : Fit M l) : Calls Try.prog 26 #[.pointer (some ⟨g, 0, none⟩), .int .i64 t] w fun e w' => e = .returned (.tuple #[.int .i64 (nextR M l t).1, .int .i64 (nextR M l t).2.1, .int .i64 (nextR M l t).2.2]) ∧ Below w.heap.size w w' := by
  unfold nextR
  by_cases h : t < 0 ∨ 281474976710656 < t ∨ l.length = 0
  · rw [if_pos h]
    exact next_out g M G t l w ⟨hP⟩ h
  · rw [if_neg h]
    exact next_in g M G t _ _ ⟨rfl⟩ ⟨rfl⟩ l w ⟨hP⟩ ⟨hF⟩ hF.1 hF.2.1 hF.2.2.1 (by omega) (by omega) (by omega)
theorem rnext_calls (t : Int) (hP : Plan 87 w g M G l) (hF : Fit M l) : Calls Try.prog 37 #[.pointer (some ⟨g, 0, none⟩), .int .i64 t] w fun e w' => e = .returned (.tuple #[.int .i64 (nextR M l t).1, .int .i64 (nextR M l t).2.1, .int .i64 (nextR M l t).2.2]) ∧ Below w.heap.size w w' := by
  unfold nextR
  by_cases h : t < 0 ∨ 281474976710656 < t ∨ l.length = 0
  · rw [if_pos h]
    exact rnext_out g M G t l w ⟨hP⟩ h
  · rw [if_neg h]
    exact rnext_in g M G t _ _ ⟨rfl⟩ ⟨rfl⟩ l w ⟨hP⟩ ⟨hF⟩ hF.1 hF.2.1 hF.2.2.1 (by omega) (by omega) (by omega)
theorem start_arg {M major : Int} (M0 : 1 ≤ M) (j0 : 0 ≤ major) : 281474976710656 / M < major ∨ (major ≤ 281474976710656 / M ∧ major * M = major * M ∧ 0 ≤ major * M ∧ major * M ≤ 281474976710656) := by
  by_cases h : 281474976710656 / M < major
  · exact .inl h
  · refine .inr ⟨by omega, rfl, Int.mul_nonneg j0 (by omega), ?_⟩
    have h1 : major * M ≤ 281474976710656 / M * M := Int.mul_le_mul_of_nonneg_right (by omega) (by omega)
    have h2 := Int.ediv_mul_le 281474976710656 (show M ≠ 0 by omega)
    omega
theorem start_calls (major i : Int) (hP : Plan 90 w g M G l) (hF : Fit M l) : Calls Try.prog 27 #[.pointer (some ⟨g, 0, none⟩), .int .i64 major, .int .i64 i] w fun e w' => e = .returned (.tuple #[.int .i64 (startS M l major i).1, .int .i64 (startS M l major i).2]) ∧ Below w.heap.size w w' := by
  by_cases h : i < 0 ∨ (l.length : Int) ≤ i
  · have e : startS M l major i = (0, 2) := if_pos (by omega)
    rw [e]
    exact start_out g M G major i l w ⟨hP⟩ h
  · obtain ⟨n, rfl⟩ : ∃ n : Nat, i = n := ⟨i.toNat, by omega⟩
    have hn : n < l.length := by omega
    by_cases hj : major < 0
    · have e : startS M l major n = (0, 2) := if_pos (by omega)
      rw [e]
      exact start_neg g M G major n l w ⟨hP⟩ hn hj
    · obtain ⟨u0, u1, v0, v1⟩ := hF.2.2.2 _ (rd_mem l n hn)
      refine start_in g M G major (major * M) _ _ _ n l w ⟨hP⟩ hn hF.1 hF.2.1 ⟨rfl⟩ ⟨rfl⟩ ⟨rfl⟩ u0 u1 (by omega) ⟨start_arg hF.1 (by omega)⟩ _ ⟨?_⟩
      unfold startS
      by_cases hq : 281474976710656 / M < major ∨ 281474976710656 - (rd_T45 l n).f1 < major * M
      · rw [if_pos hq, if_pos (by rcases hq with hq | hq; exact .inr (.inr (.inr (.inl hq))); exact .inr (.inr (.inr (.inr hq))))]
      · rw [if_neg hq, if_neg (by omega)]
theorem rstart_calls (major i : Int) (hP : Plan 87 w g M G l) (hF : Fit M l) : Calls Try.prog 38 #[.pointer (some ⟨g, 0, none⟩), .int .i64 major, .int .i64 i] w fun e w' => e = .returned (.tuple #[.int .i64 (startS M l major i).1, .int .i64 (startS M l major i).2]) ∧ Below w.heap.size w w' := by
  by_cases h : i < 0 ∨ (l.length : Int) ≤ i ∨ major < 0
  · have e : startS M l major i = (0, 2) := if_pos (by omega)
    rw [e]
    exact rstart_out g M G major i l w ⟨hP⟩ h
  · obtain ⟨n, rfl⟩ : ∃ n : Nat, i = n := ⟨i.toNat, by omega⟩
    have hn : n < l.length := by omega
    obtain ⟨u0, u1, v0, v1⟩ := hF.2.2.2 _ (rd_mem l n hn)
    refine rstart_in g M G major (major * M) _ n l w ⟨hP⟩ hn hF.1 hF.2.1 ⟨rfl⟩ u0 u1 (by omega) ⟨start_arg hF.1 (by omega)⟩ _ ⟨?_⟩
    unfold startS
    by_cases hq : 281474976710656 / M < major ∨ 281474976710656 - (rd_T45 l n).f1 < major * M
    · rw [if_pos hq, if_pos (by rcases hq with hq | hq; exact .inr (.inr (.inr (.inl hq))); exact .inr (.inr (.inr (.inr hq))))]
    · rw [if_neg hq, if_neg (by omega)]
end Go.Proofs.Ytagnlbpndldfeaa.SPlanCalls
