/- The machine's time and the document's, side by side. -/
import Derived.Test.YtagnlbpndldfeaaSPlaysR
namespace Go.Proofs.Ytagnlbpndldfeaa.SPlaysB
open Go.RowKit Go.Proofs.Ytagnlbpndldfeaa.PSchedPlays Go.Proofs.YtagnlbpndldfeaaW.PrintWords Go.Proofs.YtagnlbpndldfeaaW.PrintLast Go.Proofs.YtagnlbpndldfeaaW.PrintMore Go.Proofs.Ytagnlbpndldfeaa.Aid Go.Proofs.Ytagnlbpndldfeaa.PlanBase Go.Proofs.Ytagnlbpndldfeaa.SPlanAt Go.Proofs.Ytagnlbpndldfeaa.SPlanStart Go.Proofs.Ytagnlbpndldfeaa.SPlanCalls Go.Proofs.Ytagnlbpndldfeaa.SPlanBudget Go.Proofs.Ytagnlbpndldfeaa.SBase Go.Proofs.Ytagnlbpndldfeaa.SState Go.Proofs.Ytagnlbpndldfeaa.SLeave Go.Proofs.Ytagnlbpndldfeaa.SEnter Go.Proofs.Ytagnlbpndldfeaa.SCycPure Go.Proofs.Ytagnlbpndldfeaa.SLive Go.Proofs.Ytagnlbpndldfeaa.SPlaysR
set_option linter.unusedVariables false
set_option linter.unusedSimpArgs false
/-- Where the time is: outside all windows; inside one. -/
inductive Q where
  | o (last : Int)
  | i (j : Int) (n : Nat) (s y B bg u last : Int)
def Q.ok (M G : Int) (l : List S45) : Q → Prop
  | .o last => 0 ≤ last ∧ last ≤ 281474976710656
  | .i j n s y B bg u last => Win M G l j n s y B bg ∧ Use y u ∧ 0 ≤ j
def SS (w : World) (p : Pl) (M G : Int) (l : List S45) : Q → Prop
  | .o last => Outs w p M G l last
  | .i j n s y B bg u last => Ins w p M G l j n bg B u last
def RR (w : World) (r : RP) (M G : Int) (l : List S45) : Q → Prop
  | .o last => RRaw w r M G l last (-1) (-1) 0 last
  | .i j n s y B bg u last => RRaw w r M G l (bg + u) n j u last
theorem nextIdx_is {x : Int} : ∀ {l : List S45} {b m : Nat}, nextIdx x b l = some m → b ≤ m ∧ m - b < l.length ∧ x ≤ (gd l (m - b)).f1
  | [], _, _, h => by simp [nextIdx] at h
  | y :: r, b, m, h => by
    rw [nextIdx] at h
    split at h
    · next hc =>
      obtain rfl : b = m := by simpa using h
      refine ⟨Nat.le_refl _, by simp, ?_⟩
      rw [Nat.sub_self]
      exact hc
    · obtain ⟨h1, h2, h3⟩ := nextIdx_is h
      have e : m - b = (m - (b + 1)) + 1 := by omega
      refine ⟨by omega, by rw [e]; simpa using h2, ?_⟩
      rw [e]
      exact h3
theorem next_case {M t : Int} {l : List S45} (hF : Fit M l) (t0 : 0 ≤ t) (t1 : t ≤ 281474976710656) :
    nextR M l t = (0, 0, 2) ∨ ∃ (j : Int) (n : Nat), nextR M l t = (j, (n : Int), 0) ∧ n < l.length ∧ 0 ≤ j ∧ t ≤ j * M + (gd l n).f1 := by
  have M0 := hF.1
  unfold nextR
  by_cases h : l.length = 0
  · left
    rw [if_pos (.inr (.inr h))]
  · right
    rw [if_neg (by omega)]
    have hq : 0 ≤ t / M := Int.ediv_nonneg t0 (by omega)
    have hm := Int.mul_ediv_add_emod t M
    have hmc : M * (t / M) = t / M * M := Int.mul_comm _ _
    cases hi : nextIdx (t % M) 0 l with
    | none =>
      refine ⟨_, 0, rfl, by omega, ?_, ?_⟩
      · show 0 ≤ t / M + 1
        omega
      · have h0 := (hF.2.2.2 _ (gd_mem (show 0 < l.length by omega))).1
        have h1 := Int.emod_lt_of_pos t (show 0 < M by omega)
        have h2 : (t / M + 1) * M = t / M * M + M := by rw [Int.add_mul, Int.one_mul]
        show t ≤ (t / M + 1) * M + (gd l 0).f1
        omega
    | some m =>
      obtain ⟨h1, h2, h3⟩ := nextIdx_is hi
      rw [Nat.sub_zero] at h2 h3
      refine ⟨_, m, rfl, h2, hq, ?_⟩
      show t ≤ t / M * M + (gd l m).f1
      omega
theorem start_case {M j : Int} {n : Nat} {l : List S45} (hF : Fit M l) (hn : n < l.length) (j0 : 0 ≤ j) :
    startS M l j n = (0, 2) ∨ (startS M l j n = (j * M + (gd l n).f1, 0) ∧ 0 ≤ j * M + (gd l n).f1 ∧ j * M + (gd l n).f1 ≤ 281474976710656) := by
  unfold startS
  rw [rd_gd]
  split
  · exact .inl rfl
  · right
    have h := (hF.2.2.2 _ (gd_mem hn)).1
    have h2 := Int.mul_nonneg j0 (show 0 ≤ M by have := hF.1; omega)
    exact ⟨rfl, by omega, by omega⟩
/-- Both answer alike, and both go on alike. -/
def Both (M G : Int) (l : List S45) (q q' : Q) (fs fr : Nat) (xs : List Value) (v : Value) : Prop :=
  q'.ok M G l ∧ (∀ w p, SS w p M G l q → Calls Try.prog fs (#[Value.pointer (some ⟨p.gs, 0, none⟩)] ++ xs.toArray) w fun e w' => e = .returned v ∧ SS w' p M G l q' ∧ Moves w w' (S3 p)) ∧
  (∀ w r, RR w r M G l q → Calls Try.prog fr (#[Value.pointer (some ⟨r.g, 0, none⟩)] ++ xs.toArray) w fun e w' => e = .returned v ∧ RR w' r M G l q' ∧ Moves w w' (fun k => k = r.g))
variable {M G : Int} {l : List S45}
theorem SS.below {w w' : World} {p : Pl} {q : Q} (h : SS w p M G l q) (hb : Below w.heap.size w w') : SS w' p M G l q := by
  cases q with
  | o last => exact Outs.below h hb
  | i j n s y B bg u last => exact Ins.below h hb
theorem RR.below {w w' : World} {r : RP} {q : Q} (h : RR w r M G l q) (hb : Below w.heap.size w w') : RR w' r M G l q := by
  cases q with
  | o last => exact RRaw.below h hb
  | i j n s y B bg u last => exact RRaw.below h hb
theorem stay_S {w : World} {p : Pl} {q : Q} {fs : Nat} {xs : Array Value} {v : Value} (h : SS w p M G l q) (hc : Calls Try.prog fs xs w fun e w' => e = .returned v ∧ Below w.heap.size w w') :
    Calls Try.prog fs xs w fun e w' => e = .returned v ∧ SS w' p M G l q ∧ Moves w w' (S3 p) := by
  refine hc.mono ?_
  rintro e w' ⟨rfl, hb⟩
  exact ⟨rfl, h.below hb, Moves.of_below hb _⟩
theorem stay_R {w : World} {r : RP} {q : Q} {fs : Nat} {xs : Array Value} {v : Value} (h : RR w r M G l q) (hc : Calls Try.prog fs xs w fun e w' => e = .returned v ∧ Below w.heap.size w w') :
    Calls Try.prog fs xs w fun e w' => e = .returned v ∧ RR w' r M G l q ∧ Moves w w' (fun k => k = r.g) := by
  refine hc.mono ?_
  rintro e w' ⟨rfl, hb⟩
  exact ⟨rfl, h.below hb, Moves.of_below hb _⟩
theorem of_same {w : World} {fs : Nat} {xs : Array Value} {v : Value} (hc : Calls Try.prog fs xs w fun e w' => e = .returned v ∧ w' = w) : Calls Try.prog fs xs w fun e w' => e = .returned v ∧ Below w.heap.size w w' := by
  refine hc.mono ?_
  rintro e w' ⟨rfl, rfl⟩
  exact ⟨rfl, Below.refl _ _⟩
theorem of_drew {w : World} {fs : Nat} {xs : Array Value} {v : Value} (hc : Calls Try.prog fs xs w fun e w' => e = .returned v ∧ ∃ m, w' = w.drewN m) : Calls Try.prog fs xs w fun e w' => e = .returned v ∧ Below w.heap.size w w' := by
  refine hc.mono ?_
  rintro e w' ⟨rfl, m, rfl⟩
  exact ⟨rfl, pw_below_drewN (Below.refl _ _) m⟩
theorem enter_both (hF : Fit M l) (hG : 0 ≤ G ∧ G ≤ 16777216) (q : Q) (hq : q.ok M G l) : ∃ (x y e : Int) (q' : Q), Both M G l q q' 9 18 [] (.tuple #[.int .i64 x, .int .i64 y, .int .i64 e]) := by
  cases q with
  | i j n s y B bg u last =>
    refine ⟨0, 0, 8, .i j n s y B bg u last, hq, fun w p h => stay_S h (of_same (enter_in h)), fun w r h => stay_R h (of_same (renter_in h (by omega)))⟩
  | o last =>
    obtain ⟨t0, t1⟩ := hq
    rcases next_case hF t0 t1 with hN | ⟨j, n, hN, hn, j0, ht⟩
    · exact ⟨0, 0, 2, .o last, ⟨t0, t1⟩, fun w p h => stay_S h (enter_none 0 0 h ⟨hF⟩ ⟨hN⟩), fun w r h => stay_R h (renter_none 0 0 h ⟨hF⟩ ⟨hN⟩)⟩
    · rcases start_case hF hn j0 with hS | ⟨hS, s0, s1⟩
      · exact ⟨0, 0, 2, .o last, ⟨t0, t1⟩, fun w p h => stay_S h (enter_bad n j 0 2 _ _ _ h ⟨hF⟩ ⟨hN⟩ ⟨hn⟩ ⟨hS⟩ ⟨rfl⟩ ⟨rfl⟩ ⟨rfl⟩ rfl), fun w r h => stay_R h (renter_bad n j 0 h ⟨hF⟩ ⟨hN⟩ ⟨hS⟩)⟩
      · have hw := hF.2.2.2 _ (gd_mem hn)
        have M1 := hF.2.1
        have hy : (rd_T45 l (n : Int)).f2 = (gd l n).f2 := by rw [rd_gd]
        generalize j * M + (gd l n).f1 = s at *
        by_cases hlate : 281474976710656 - s < (gd l n).f2
        · exact ⟨0, 0, 2, .o last, ⟨t0, t1⟩, fun w p h => stay_S h (enter_late n j s _ _ _ h ⟨hF⟩ ⟨hN⟩ ⟨hn⟩ ⟨hS⟩ ⟨rfl⟩ ⟨rfl⟩ ⟨hy⟩ (w64 (by omega) (by omega)) (decide_eq_true hlate)), fun w r h => stay_R h (renter_late n j s _ h ⟨hF⟩ ⟨hN⟩ ⟨hn⟩ ⟨hS⟩ ⟨hy⟩ (by omega) (by omega))⟩
        · have W : Win M G l j n s (gd l n).f2 (max 0 ((gd l n).f2 - 40 - G)) (s + min 40 (gd l n).f2) := ⟨hF, hn, hS, hy, by omega, s0, by omega, hG.1, hG.2, rfl, rfl⟩
          refine ⟨n, j, 0, .i j n s (gd l n).f2 (max 0 ((gd l n).f2 - 40 - G)) (s + min 40 (gd l n).f2) 0 last, ⟨W, ⟨by omega, by omega⟩, j0⟩, fun w p h => enter_live W h hN t0 ht, fun w r h => ?_⟩
          have := renter_ok n j s _ (s + min 40 (gd l n).f2) h ⟨hF⟩ ⟨hN⟩ ⟨hn⟩ ⟨hS⟩ ⟨hy⟩ (by omega) (by omega) s0 rfl
          refine this.mono ?_
          rintro e w' ⟨rfl, hR, hM⟩
          refine ⟨rfl, ?_, hM⟩
          show RRaw w' r M G l (s + min 40 (gd l n).f2 + 0) n j 0 last
          rw [Int.add_zero]
          exact hR
theorem spend_both (hF : Fit M l) (hG : 0 ≤ G ∧ G ≤ 16777216) (q : Q) (hq : q.ok M G l) (n : Int) : ∃ (e : Int) (q' : Q), Both M G l q q' 12 19 [.int .i64 n] (.int .i64 e) := by
  cases q with
  | o last => exact ⟨8, .o last, hq, fun w p h => stay_S h (of_drew (spend_out h n)), fun w r h => stay_R h (of_drew (rspend_out n h))⟩
  | i j m s y B bg u last =>
    obtain ⟨W, hu, j0⟩ := hq
    have hb := W.bud
    have b0 := use_bg W hu
    have hs := use_bg W (use_sp W hu n)
    have s1 := W.s1
    have hy := W.y1
    have hu2 := hu
    unfold Use at hu2
    have g1 := W.g1
    have hbg := W.hbg
    have s0 := W.s0
    refine ⟨spE B u G n, .i j m s y B bg (spU B u G n) last, ⟨W, use_sp W hu n, j0⟩, fun w p h => spend_live W h hu n, fun w r h => ?_⟩
    unfold spE spU at *
    by_cases c0 : B ≤ u
    · rw [if_pos c0, if_pos (.inl c0)]
      exact stay_R (q := .i j m s y B bg u last) h (rspend_no n h hF hG (by omega) hb c0)
    by_cases c1 : n < 0
    · rw [if_neg c0, if_pos c1, if_pos (.inr (.inl c1))]
      exact stay_R (q := .i j m s y B bg u last) h (rspend_neg n h hF hG (by omega) hb (by omega) c1)
    by_cases c2 : G < n
    · rw [if_neg c0, if_neg c1, if_pos c2, if_pos (.inr (.inr c2))]
      exact stay_R (q := .i j m s y B bg u last) h (rspend_big n h hF hG (by omega) hb (by omega) ⟨by omega, c2⟩)
    rw [if_neg c0, if_neg c1, if_neg c2, if_neg (by omega)]
    rw [if_neg (by omega)] at hs
    refine (rspend_ok n h hF hG (by omega) hb (by omega) ⟨by omega, by omega⟩ ⟨by omega, by omega⟩ ⟨hu2.1, by omega⟩).mono ?_
    rintro e w' ⟨rfl, hR, hM⟩
    refine ⟨rfl, ?_, hM⟩
    show RRaw w' r M G l (bg + (u + n)) m j (u + n) last
    rw [← Int.add_assoc]
    exact hR
theorem leave_both (hF : Fit M l) (hG : 0 ≤ G ∧ G ≤ 16777216) (q : Q) (hq : q.ok M G l) : ∃ (x e : Int) (q' : Q), Both M G l q q' 14 20 [] (.tuple #[.int .i64 x, .int .i64 e]) := by
  cases q with
  | o last => exact ⟨0, 8, .o last, hq, fun w p h => stay_S h (of_same (leave_out h)), fun w r h => stay_R h (of_same (rleave_out h))⟩
  | i j m s y B bg u last =>
    obtain ⟨W, hu, j0⟩ := hq
    have s0 := W.s0
    have s1 := W.s1
    have y1 := W.y1
    exact ⟨s + y, 0, .o (s + y), ⟨by omega, by omega⟩, fun w p h => leave_live W h hu, fun w r h => rleave_in m s y (s + y) h ⟨W.fit⟩ ⟨W.hi⟩ ⟨W.st⟩ ⟨W.hy⟩ rfl ⟨by omega, by omega⟩⟩
end Go.Proofs.Ytagnlbpndldfeaa.SPlaysB
