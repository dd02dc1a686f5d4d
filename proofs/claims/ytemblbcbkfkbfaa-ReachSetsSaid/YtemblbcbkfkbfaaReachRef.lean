/- The document's Reach comes to the least set. -/
import Derived.Test.YtemblbcbkfkbfaaPReachSetsx2
import Derived.Test.YtemblbcbkfkbfaaReachPlain
import Derived.Test.YtemblbcbkfkbfaaAid
namespace Go.Proofs.Ytemblbcbkfkbfaa.ReachRef
open Go.RowKit Go.Proofs.Ytemblbcbkfkbfaa.PReachSets Go.Proofs.YtemblbcbkfkbfaaW.PrintWords Go.Proofs.Ytemblbcbkfkbfaa.ReachPlain Go.Proofs.Ytemblbcbkfkbfaa.Aid
set_option linter.unusedVariables false
set_option linter.unusedSimpArgs false
theorem rd_get {l : List Int} {i : Nat} (h : i < l.length) : rd l (i : Int) = l[i] := by simp [rd, h]
theorem among_l0 (l : List Int) (v : Int) (hl : l.length ≤ 1000000) : ∀ d i : Nat, l.length - i = d → i ≤ l.length → Ev (fun k => bulkheadref29_among.l0 k l v (i : Int)) (has (l.drop i) v)
  | 0, i, hd, hi => by
    have e : has (l.drop i) v = false := by
      rw [List.drop_of_length_le (by omega)]
      rfl
    rw [e]
    refine Ev.step (f := fun _ => some false) (fun k => ?_) (Ev.now _)
    simp only [bulkheadref29_among.l0]
    rw [if_neg (by omega)]
  | d + 1, i, hd, hi => by
    have hlt : i < l.length := by omega
    have e : has (l.drop i) v = (v == l[i] || has (l.drop (i + 1)) v) := by
      unfold has
      rw [List.drop_eq_getElem_cons hlt, Bool.eq_iff_iff]
      simp only [decide_eq_true_eq, Bool.or_eq_true, beq_iff_eq, List.mem_cons]
    have hw : wrap64 ((i : Int) + 1) = ((i + 1 : Nat) : Int) := by
      rw [w64 (by omega) (by omega)]
      omega
    rw [e]
    by_cases c : l[i] = v
    · have e2 : (v == l[i] || has (l.drop (i + 1)) v) = true := by simp [c]
      rw [e2]
      refine Ev.step (f := fun _ => some true) (fun k => ?_) (Ev.now _)
      simp only [bulkheadref29_among.l0]
      rw [if_pos (by omega), if_pos (by omega), rd_get hlt, if_pos c]
    · have e2 : (v == l[i] || has (l.drop (i + 1)) v) = has (l.drop (i + 1)) v := by
        have : (v == l[i]) = false := beq_eq_false_iff_ne.2 fun e => c e.symm
        rw [this, Bool.false_or]
      rw [e2]
      refine Ev.step (f := fun k => bulkheadref29_among.l0 k l v ((i + 1 : Nat) : Int)) (fun k => ?_) (among_l0 l v hl d (i + 1) (by omega) (by omega))
      simp only [bulkheadref29_among.l0]
      rw [if_pos (by omega), if_pos (by omega), rd_get hlt, if_neg c, hw]
theorem among_ev (l : List Int) (v : Int) (hl : l.length ≤ 1000000) : Ev (fun k => bulkheadref29_among.f k l v) (has l v) := by
  have h := among_l0 l v hl l.length 0 (by omega) (by omega)
  rwa [List.drop_zero] at h
section
variable (x0 x1 x2 x3 x4 x5 : Int) (l6 : List S58) (l7 : List S60) (cs : List S31)
theorem l2_ev (l : List Int) (hl : l.length ≤ 1000000) (h6 : l6.length ≤ 1000) : ∀ d p : Nat, l6.length - p = d → p ≤ l6.length → Ev (fun k => bulkheadref29_Reach.l2 k l (outB p (has l)) (p : Int) x0 x1 x2 x3 x4 x5 l6 l7 cs) (outB l6.length (has l))
  | 0, p, hd, hp => by
    have e : p = l6.length := by omega
    rw [e]
    refine Ev.step (f := fun _ => some _) (fun k => ?_) (Ev.now _)
    simp only [bulkheadref29_Reach.l2]
    rw [if_neg (by omega)]
  | d + 1, p, hd, hp => by
    have hw : wrap64 ((p : Int) + 1) = ((p + 1 : Nat) : Int) := by
      rw [w64 (by omega) (by omega)]
      omega
    have ih := l2_ev l hl h6 d (p + 1) (by omega) (by omega)
    rw [outB_succ] at ih
    have hlen := outB_len p (has l)
    refine Ev.step (f := fun k => (bulkheadref29_among.f k l (p : Int)).bind fun t121 => (if t121 = true then (if (outB p (has l)).length < 17592186044416 then (bulkheadref29_Reach.l2 k l (outB p (has l) ++ [(p : Int)]) (wrap64 ((p : Int) + 1)) x0 x1 x2 x3 x4 x5 l6 l7 cs) else (none)) else (bulkheadref29_Reach.l2 k l (outB p (has l)) (wrap64 ((p : Int) + 1)) x0 x1 x2 x3 x4 x5 l6 l7 cs))) (fun k => ?_) ?_
    · simp only [bulkheadref29_Reach.l2]
      rw [if_pos (by omega)]
    · refine Ev.bind (among_ev l (p : Int) hl) ?_
      cases hh : has l (p : Int) with
      | true =>
        rw [hh, if_pos rfl] at ih
        refine Ev.congr (fun k => ?_) ih
        show (if true = true then _ else _) = _
        rw [if_pos rfl, if_pos (by omega), hw]
      | false =>
        rw [hh, if_neg (by decide), List.append_nil] at ih
        refine Ev.congr (fun k => ?_) ih
        show (if false = true then _ else _) = _
        rw [if_neg (by decide), hw]
/-- What holds in the midst of a round. -/
def Mid (q : Int) (M i : Nat) (l : List Int) (mo : Bool) : Prop :=
  Sound l6.length cs q (fun p => has l p = true) ∧ l.length + miss l6.length (has l) ≤ l6.length ∧
  (if mo then 2 * miss l6.length (has l) + 1 < M else 2 * miss l6.length (has l) + 1 ≤ M ∧ ∀ j, j < i → Rule l6.length (rd_T31 cs (j : Int)) (fun p => has l p = true))
theorem rd_in {i : Nat} (h : i < cs.length) : (rd_T31 cs (i : Int)) ∈ cs := by
  have : (rd_T31 cs (i : Int)) = cs[i] := by simp [rd_T31, h]
  rw [this]
  exact List.getElem_mem h
variable {l6 cs}
theorem Mid.add {q : Int} {M i : Nat} {l : List Int} {mo : Bool} {v : Int} (h : Mid l6 cs q M i l mo) (hi : i < cs.length) (hv : inR l6.length v) (hn : has l v = false)
    (hr : (v = (rd_T31 cs (i : Int)).f1 ∧ has l (rd_T31 cs (i : Int)).f2 = true) ∨ (v = (rd_T31 cs (i : Int)).f2 ∧ (rd_T31 cs (i : Int)).f0 = 2 ∧ has l (rd_T31 cs (i : Int)).f1 = true)) : ∀ i', Mid l6 cs q M i' (l ++ [v]) true := by
  intro i'
  obtain ⟨h1, h2, h3⟩ := h
  have hm := miss_lt (n := l6.length) (s := has l) (t := has (l ++ [v])) hv hn (fun p => has_snoc l v p)
  refine ⟨h1.grow (rd_in cs hi) hv (fun p => ?_) hr, ?_, ?_⟩
  · rw [has_snoc]
    simp
  · rw [List.length_append]
    show l.length + 1 + _ ≤ _
    omega
  · rw [if_pos rfl]
    split at h3 <;> omega
variable (l6 cs)
/-- The rounds' end: the least set. -/
def Comes (q : Int) (g : Nat → Option (List Int)) : Prop := ∃ s : Int → Bool, Least l6.length cs q (fun p => s p = true) ∧ Ev g (outB l6.length s)
theorem j4_comes {q : Int} {M i : Nat} {l : List Int} {mo : Bool} (hi : i < cs.length) (hc : cs.length ≤ 1000) (h6 : l6.length ≤ 1000) (h : Mid l6 cs q M i l mo) (hA : has l (rd_T31 cs (i : Int)).f2 = true → inR l6.length (rd_T31 cs (i : Int)).f1 → has l (rd_T31 cs (i : Int)).f1 = true)
    (next : ∀ l mo, Mid l6 cs q M (i + 1) l mo → Comes l6 cs q (fun k => bulkheadref29_Reach.l1 k l mo ((i + 1 : Nat) : Int) x0 x1 x2 x3 x4 x5 l6 l7 cs)) :
    Comes l6 cs q (fun k => bulkheadref29_Reach.j4 k l mo (i : Int) x0 x1 x2 x3 x4 x5 l6 l7 cs (rd_T31 cs (i : Int)).f0 (rd_T31 cs (i : Int)).f1 (rd_T31 cs (i : Int)).f2 (rd_T31 cs (i : Int)).f3 (rd_T31 cs (i : Int)).f4) := by
  have hw : wrap64 ((i : Int) + 1) = ((i + 1 : Nat) : Int) := by
    rw [w64 (by omega) (by omega)]
    omega
  have hl : l.length ≤ 1000 := by
    have := h.2.1
    omega
  have same : ¬ ((rd_T31 cs (i : Int)).f0 = 2 ∧ has l (rd_T31 cs (i : Int)).f1 = true ∧ has l (rd_T31 cs (i : Int)).f2 = false ∧ inR l6.length (rd_T31 cs (i : Int)).f2) → Mid l6 cs q M (i + 1) l mo := by
    intro hno
    obtain ⟨h1, h2, h3⟩ := h
    refine ⟨h1, h2, ?_⟩
    cases mo with
    | true => exact h3
    | false =>
      rw [if_neg (by decide)] at h3 ⊢
      refine ⟨h3.1, fun j hj => ?_⟩
      rcases Nat.lt_or_ge j i with c | c
      · exact h3.2 j c
      · have e : j = i := by omega
        rw [e]
        refine ⟨hA, fun k1 k2 k3 => ?_⟩
        cases k4 : has l (rd_T31 cs (i : Int)).f2 with
        | true => exact k4
        | false => exact absurd ⟨k1, k2, k4, k3⟩ hno
  have stay : Comes l6 cs q (fun k => bulkheadref29_Reach.l1 k l mo (wrap64 ((i : Int) + 1)) x0 x1 x2 x3 x4 x5 l6 l7 cs) ∨ ((rd_T31 cs (i : Int)).f0 = 2 ∧ has l (rd_T31 cs (i : Int)).f1 = true ∧ has l (rd_T31 cs (i : Int)).f2 = false ∧ inR l6.length (rd_T31 cs (i : Int)).f2) := by
    by_cases c : (rd_T31 cs (i : Int)).f0 = 2 ∧ has l (rd_T31 cs (i : Int)).f1 = true ∧ has l (rd_T31 cs (i : Int)).f2 = false ∧ inR l6.length (rd_T31 cs (i : Int)).f2
    · exact .inr c
    · rw [hw]
      exact .inl (next l mo (same c))
  have am1 := among_ev l (rd_T31 cs (i : Int)).f1 (by omega)
  have am2 := among_ev l (rd_T31 cs (i : Int)).f2 (by omega)
  have f : ∀ r : List Int, ((rd_T31 cs (i : Int)).f0 = 2 → has l (rd_T31 cs (i : Int)).f1 = true → has l (rd_T31 cs (i : Int)).f2 = false → inR l6.length (rd_T31 cs (i : Int)).f2 → Ev (fun k => bulkheadref29_Reach.l1 k (l ++ [(rd_T31 cs (i : Int)).f2]) true (wrap64 ((i : Int) + 1)) x0 x1 x2 x3 x4 x5 l6 l7 cs) r) →
      (¬ ((rd_T31 cs (i : Int)).f0 = 2 ∧ has l (rd_T31 cs (i : Int)).f1 = true ∧ has l (rd_T31 cs (i : Int)).f2 = false ∧ inR l6.length (rd_T31 cs (i : Int)).f2) → Ev (fun k => bulkheadref29_Reach.l1 k l mo (wrap64 ((i : Int) + 1)) x0 x1 x2 x3 x4 x5 l6 l7 cs) r) → Ev (fun k => bulkheadref29_Reach.j4 k l mo (i : Int) x0 x1 x2 x3 x4 x5 l6 l7 cs (rd_T31 cs (i : Int)).f0 (rd_T31 cs (i : Int)).f1 (rd_T31 cs (i : Int)).f2 (rd_T31 cs (i : Int)).f3 (rd_T31 cs (i : Int)).f4) r := by
    intro r hy hn
    by_cases c0 : (rd_T31 cs (i : Int)).f0 = 2
    · refine Ev.step (f := fun k => (bulkheadref29_among.f k l (rd_T31 cs (i : Int)).f1).bind fun t116 => (if t116 = true then ((bulkheadref29_among.f k l (rd_T31 cs (i : Int)).f2).bind fun t117 => (if t117 = true then (bulkheadref29_Reach.l1 k l mo (wrap64 ((i : Int) + 1)) x0 x1 x2 x3 x4 x5 l6 l7 cs) else (if (rd_T31 cs (i : Int)).f2 ≥ 0 then (if (rd_T31 cs (i : Int)).f2 < (l6.length : Int) then (if l.length < 17592186044416 then (bulkheadref29_Reach.l1 k (l ++ [(rd_T31 cs (i : Int)).f2]) true (wrap64 ((i : Int) + 1)) x0 x1 x2 x3 x4 x5 l6 l7 cs) else (none)) else (bulkheadref29_Reach.l1 k l mo (wrap64 ((i : Int) + 1)) x0 x1 x2 x3 x4 x5 l6 l7 cs)) else (bulkheadref29_Reach.l1 k l mo (wrap64 ((i : Int) + 1)) x0 x1 x2 x3 x4 x5 l6 l7 cs)))) else (bulkheadref29_Reach.l1 k l mo (wrap64 ((i : Int) + 1)) x0 x1 x2 x3 x4 x5 l6 l7 cs))) (fun k => ?_) ?_
      · simp only [bulkheadref29_Reach.j4]
        rw [if_pos c0]
      · refine Ev.bind am1 ?_
        cases c1 : has l (rd_T31 cs (i : Int)).f1 with
        | false =>
          refine Ev.congr (fun k => ?_) (hn (by rw [c1]; rintro ⟨_, h, _⟩; cases h))
          show (if false = true then _ else _) = _
          rw [if_neg (by decide)]
        | true =>
          refine Ev.congr (f := fun k => (bulkheadref29_among.f k l (rd_T31 cs (i : Int)).f2).bind fun t117 => (if t117 = true then (bulkheadref29_Reach.l1 k l mo (wrap64 ((i : Int) + 1)) x0 x1 x2 x3 x4 x5 l6 l7 cs) else (if (rd_T31 cs (i : Int)).f2 ≥ 0 then (if (rd_T31 cs (i : Int)).f2 < (l6.length : Int) then (if l.length < 17592186044416 then (bulkheadref29_Reach.l1 k (l ++ [(rd_T31 cs (i : Int)).f2]) true (wrap64 ((i : Int) + 1)) x0 x1 x2 x3 x4 x5 l6 l7 cs) else (none)) else (bulkheadref29_Reach.l1 k l mo (wrap64 ((i : Int) + 1)) x0 x1 x2 x3 x4 x5 l6 l7 cs)) else (bulkheadref29_Reach.l1 k l mo (wrap64 ((i : Int) + 1)) x0 x1 x2 x3 x4 x5 l6 l7 cs)))) (fun k => ?_) ?_
          · show (if true = true then _ else _) = _
            rw [if_pos rfl]
          · refine Ev.bind am2 ?_
            cases c2 : has l (rd_T31 cs (i : Int)).f2 with
            | true =>
              refine Ev.congr (fun k => ?_) (hn (by rw [c2]; rintro ⟨_, _, h, _⟩; cases h))
              show (if true = true then _ else _) = _
              rw [if_pos rfl]
            | false =>
              by_cases c3 : (rd_T31 cs (i : Int)).f2 ≥ 0
              · by_cases c4 : (rd_T31 cs (i : Int)).f2 < (l6.length : Int)
                · refine Ev.congr (fun k => ?_) (hy c0 c1 c2 ⟨c3, c4⟩)
                  show (if false = true then _ else _) = _
                  rw [if_neg (by decide), if_pos c3, if_pos c4, if_pos (by omega)]
                · refine Ev.congr (fun k => ?_) (hn (by rintro ⟨_, _, _, _, h⟩; exact c4 h))
                  show (if false = true then _ else _) = _
                  rw [if_neg (by decide), if_pos c3, if_neg c4]
              · refine Ev.congr (fun k => ?_) (hn (by rintro ⟨_, _, _, h, _⟩; exact c3 h))
                show (if false = true then _ else _) = _
                rw [if_neg (by decide), if_neg c3]
    · refine Ev.step (f := fun k => bulkheadref29_Reach.l1 k l mo (wrap64 ((i : Int) + 1)) x0 x1 x2 x3 x4 x5 l6 l7 cs) (fun k => ?_) (hn (by rintro ⟨h, _⟩; exact c0 h))
      simp only [bulkheadref29_Reach.j4]
      rw [if_neg c0]
  rcases stay with ⟨s, h1, h2⟩ | ⟨k1, k2, k3, k4⟩
  · by_cases c : (rd_T31 cs (i : Int)).f0 = 2 ∧ has l (rd_T31 cs (i : Int)).f1 = true ∧ has l (rd_T31 cs (i : Int)).f2 = false ∧ inR l6.length (rd_T31 cs (i : Int)).f2
    · obtain ⟨k1, k2, k3, k4⟩ := c
      have h5 := next _ _ (h.add hi k4 k3 (.inr ⟨rfl, k1, k2⟩) (i + 1))
      rw [← hw] at h5
      obtain ⟨s, h6, h7⟩ := h5
      exact ⟨s, h6, f _ (fun _ _ _ _ => h7) (fun c => absurd ⟨k1, k2, k3, k4⟩ c)⟩
    · exact ⟨s, h1, f _ (fun a b d e => absurd ⟨a, b, d, e⟩ c) (fun _ => h2)⟩
  · have h5 := next _ _ (h.add hi k4 k3 (.inr ⟨rfl, k1, k2⟩) (i + 1))
    rw [← hw] at h5
    obtain ⟨s, h6, h7⟩ := h5
    exact ⟨s, h6, f _ (fun _ _ _ _ => h7) (fun c => absurd ⟨k1, k2, k3, k4⟩ c)⟩
theorem l1_comes {q : Int} {M i : Nat} {l : List Int} {mo : Bool} (hi : i < cs.length) (hc : cs.length ≤ 1000) (h6 : l6.length ≤ 1000) (h : Mid l6 cs q M i l mo)
    (next : ∀ l mo, Mid l6 cs q M (i + 1) l mo → Comes l6 cs q (fun k => bulkheadref29_Reach.l1 k l mo ((i + 1 : Nat) : Int) x0 x1 x2 x3 x4 x5 l6 l7 cs)) :
    Comes l6 cs q (fun k => bulkheadref29_Reach.l1 k l mo (i : Int) x0 x1 x2 x3 x4 x5 l6 l7 cs) := by
  have hl : l.length ≤ 1000 := by
    have := h.2.1
    omega
  have am1 := among_ev l (rd_T31 cs (i : Int)).f1 (by omega)
  have am2 := among_ev l (rd_T31 cs (i : Int)).f2 (by omega)
  have f : ∀ (b : Bool) (r : List Int), (b = (has l (rd_T31 cs (i : Int)).f2 && !has l (rd_T31 cs (i : Int)).f1 && decide (inR l6.length (rd_T31 cs (i : Int)).f1))) → Ev (fun k => bulkheadref29_Reach.j3 k l mo (i : Int) b x0 x1 x2 x3 x4 x5 l6 l7 cs (rd_T31 cs (i : Int)).f0 (rd_T31 cs (i : Int)).f1 (rd_T31 cs (i : Int)).f2 (rd_T31 cs (i : Int)).f3 (rd_T31 cs (i : Int)).f4) r → Ev (fun k => bulkheadref29_Reach.l1 k l mo (i : Int) x0 x1 x2 x3 x4 x5 l6 l7 cs) r := by
    intro b r hb hr
    refine Ev.step (f := fun k => (bulkheadref29_among.f k l (rd_T31 cs (i : Int)).f2).bind fun t111 => (if t111 = true then ((bulkheadref29_among.f k l (rd_T31 cs (i : Int)).f1).bind fun t112 => (if t112 = true then (bulkheadref29_Reach.j3 k l mo (i : Int) false x0 x1 x2 x3 x4 x5 l6 l7 cs (rd_T31 cs (i : Int)).f0 (rd_T31 cs (i : Int)).f1 (rd_T31 cs (i : Int)).f2 (rd_T31 cs (i : Int)).f3 (rd_T31 cs (i : Int)).f4) else (if (rd_T31 cs (i : Int)).f1 ≥ 0 then (bulkheadref29_Reach.j3 k l mo (i : Int) (decide ((rd_T31 cs (i : Int)).f1 < (l6.length : Int))) x0 x1 x2 x3 x4 x5 l6 l7 cs (rd_T31 cs (i : Int)).f0 (rd_T31 cs (i : Int)).f1 (rd_T31 cs (i : Int)).f2 (rd_T31 cs (i : Int)).f3 (rd_T31 cs (i : Int)).f4) else (bulkheadref29_Reach.j3 k l mo (i : Int) false x0 x1 x2 x3 x4 x5 l6 l7 cs (rd_T31 cs (i : Int)).f0 (rd_T31 cs (i : Int)).f1 (rd_T31 cs (i : Int)).f2 (rd_T31 cs (i : Int)).f3 (rd_T31 cs (i : Int)).f4)))) else (bulkheadref29_Reach.j3 k l mo (i : Int) false x0 x1 x2 x3 x4 x5 l6 l7 cs (rd_T31 cs (i : Int)).f0 (rd_T31 cs (i : Int)).f1 (rd_T31 cs (i : Int)).f2 (rd_T31 cs (i : Int)).f3 (rd_T31 cs (i : Int)).f4))) (fun k => ?_) ?_
    · simp only [bulkheadref29_Reach.l1]
      rw [if_pos (by omega), if_pos (by omega)]
    · refine Ev.bind am2 ?_
      cases c2 : has l (rd_T31 cs (i : Int)).f2 with
      | false =>
        rw [c2] at hb
        subst hb
        refine Ev.congr (fun k => ?_) hr
        show (if false = true then _ else _) = _
        rw [if_neg (by decide)]
        rfl
      | true =>
        refine Ev.congr (f := fun k => (bulkheadref29_among.f k l (rd_T31 cs (i : Int)).f1).bind fun t112 => (if t112 = true then (bulkheadref29_Reach.j3 k l mo (i : Int) false x0 x1 x2 x3 x4 x5 l6 l7 cs (rd_T31 cs (i : Int)).f0 (rd_T31 cs (i : Int)).f1 (rd_T31 cs (i : Int)).f2 (rd_T31 cs (i : Int)).f3 (rd_T31 cs (i : Int)).f4) else (if (rd_T31 cs (i : Int)).f1 ≥ 0 then (bulkheadref29_Reach.j3 k l mo (i : Int) (decide ((rd_T31 cs (i : Int)).f1 < (l6.length : Int))) x0 x1 x2 x3 x4 x5 l6 l7 cs (rd_T31 cs (i : Int)).f0 (rd_T31 cs (i : Int)).f1 (rd_T31 cs (i : Int)).f2 (rd_T31 cs (i : Int)).f3 (rd_T31 cs (i : Int)).f4) else (bulkheadref29_Reach.j3 k l mo (i : Int) false x0 x1 x2 x3 x4 x5 l6 l7 cs (rd_T31 cs (i : Int)).f0 (rd_T31 cs (i : Int)).f1 (rd_T31 cs (i : Int)).f2 (rd_T31 cs (i : Int)).f3 (rd_T31 cs (i : Int)).f4)))) (fun k => ?_) ?_
        · show (if true = true then _ else _) = _
          rw [if_pos rfl]
        · refine Ev.bind am1 ?_
          rw [c2] at hb
          cases c1 : has l (rd_T31 cs (i : Int)).f1 with
          | true =>
            rw [c1] at hb
            subst hb
            refine Ev.congr (fun k => ?_) hr
            show (if true = true then _ else _) = _
            rw [if_pos rfl]
            rfl
          | false =>
            rw [c1] at hb
            by_cases c3 : (rd_T31 cs (i : Int)).f1 ≥ 0
            · have e : b = decide ((rd_T31 cs (i : Int)).f1 < (l6.length : Int)) := by
                rw [hb]
                simp [inR, c3]
              subst e
              refine Ev.congr (fun k => ?_) hr
              show (if false = true then _ else _) = _
              rw [if_neg (by decide), if_pos c3]
            · have e : b = false := by
                rw [hb]
                simp [inR, c3]
              subst e
              refine Ev.congr (fun k => ?_) hr
              show (if false = true then _ else _) = _
              rw [if_neg (by decide), if_neg c3]
  cases hb : (has l (rd_T31 cs (i : Int)).f2 && !has l (rd_T31 cs (i : Int)).f1 && decide (inR l6.length (rd_T31 cs (i : Int)).f1)) with
  | true =>
    have hb' := hb
    simp only [Bool.and_eq_true, Bool.not_eq_true', decide_eq_true_eq] at hb'
    obtain ⟨⟨k1, k2⟩, k3⟩ := hb'
    have hM := h.add hi k3 k2 (.inl ⟨rfl, k1⟩) i
    obtain ⟨s, h7, h8⟩ := j4_comes x0 x1 x2 x3 x4 x5 l6 l7 cs hi hc h6 hM (fun _ _ => by rw [has_snoc]; simp) next
    refine ⟨s, h7, f true _ hb.symm ?_⟩
    refine Ev.step (f := fun k => bulkheadref29_Reach.j4 k (l ++ [(rd_T31 cs (i : Int)).f1]) true (i : Int) x0 x1 x2 x3 x4 x5 l6 l7 cs (rd_T31 cs (i : Int)).f0 (rd_T31 cs (i : Int)).f1 (rd_T31 cs (i : Int)).f2 (rd_T31 cs (i : Int)).f3 (rd_T31 cs (i : Int)).f4) (fun k => ?_) h8
    simp only [bulkheadref29_Reach.j3]
    rw [if_pos trivial, if_pos (by omega)]
  | false =>
    have hA : has l (rd_T31 cs (i : Int)).f2 = true → inR l6.length (rd_T31 cs (i : Int)).f1 → has l (rd_T31 cs (i : Int)).f1 = true := by
      intro k1 k3
      cases k2 : has l (rd_T31 cs (i : Int)).f1 with
      | true => rfl
      | false =>
        rw [k1, k2, decide_eq_true k3] at hb
        cases hb
    obtain ⟨s, h7, h8⟩ := j4_comes x0 x1 x2 x3 x4 x5 l6 l7 cs hi hc h6 h hA next
    refine ⟨s, h7, f false _ hb.symm ?_⟩
    refine Ev.step (f := fun k => bulkheadref29_Reach.j4 k l mo (i : Int) x0 x1 x2 x3 x4 x5 l6 l7 cs (rd_T31 cs (i : Int)).f0 (rd_T31 cs (i : Int)).f1 (rd_T31 cs (i : Int)).f2 (rd_T31 cs (i : Int)).f3 (rd_T31 cs (i : Int)).f4) (fun k => ?_) h8
    simp only [bulkheadref29_Reach.j3]
    rw [if_neg (by decide)]
theorem round_comes {q : Int} {M : Nat} (hc : cs.length ≤ 1000) (h6 : l6.length ≤ 1000)
    (last : ∀ l mo, Mid l6 cs q M cs.length l mo → Comes l6 cs q (fun k => bulkheadref29_Reach.l0 k l mo x0 x1 x2 x3 x4 x5 l6 l7 cs)) :
    ∀ d i : Nat, cs.length - i = d → i ≤ cs.length → ∀ l mo, Mid l6 cs q M i l mo → Comes l6 cs q (fun k => bulkheadref29_Reach.l1 k l mo (i : Int) x0 x1 x2 x3 x4 x5 l6 l7 cs)
  | 0, i, hd, hi, l, mo, h => by
    have e : i = cs.length := by omega
    rw [e] at h ⊢
    obtain ⟨s, h1, h2⟩ := last l mo h
    refine ⟨s, h1, Ev.step (f := fun k => bulkheadref29_Reach.l0 k l mo x0 x1 x2 x3 x4 x5 l6 l7 cs) (fun k => ?_) h2⟩
    simp only [bulkheadref29_Reach.l1]
    rw [if_neg (by omega)]
  | d + 1, i, hd, hi, l, mo, h => l1_comes x0 x1 x2 x3 x4 x5 l6 l7 cs (by omega) hc h6 h fun l mo hm => round_comes hc h6 last d (i + 1) (by omega) (by omega) l mo hm
theorem all_comes {q : Int} (hc : cs.length ≤ 1000) (h6 : l6.length ≤ 1000) : ∀ (M : Nat) (l : List Int) (mo : Bool), Sound l6.length cs q (fun p => has l p = true) → l.length + miss l6.length (has l) ≤ l6.length → 2 * miss l6.length (has l) + (if mo then 1 else 0) ≤ M → (mo = false → ShutC l6.length cs (fun p => has l p = true)) → Comes l6 cs q (fun k => bulkheadref29_Reach.l0 k l mo x0 x1 x2 x3 x4 x5 l6 l7 cs) := by
  intro M
  induction M with
  | zero =>
    intro l mo h1 h2 h3 h4
    cases mo with
    | true =>
      rw [if_pos rfl] at h3
      omega
    | false =>
      refine ⟨has l, ⟨h1, h4 rfl⟩, Ev.step (f := fun k => bulkheadref29_Reach.l2 k l (outB 0 (has l)) ((0 : Nat) : Int) x0 x1 x2 x3 x4 x5 l6 l7 cs) (fun k => ?_) (l2_ev x0 x1 x2 x3 x4 x5 l6 l7 cs l (by omega) h6 l6.length 0 (by omega) (by omega))⟩
      simp only [bulkheadref29_Reach.l0]
      rw [if_neg (by decide)]
      rfl
  | succ M ih =>
    intro l mo h1 h2 h3 h4
    cases mo with
    | false =>
      refine ⟨has l, ⟨h1, h4 rfl⟩, Ev.step (f := fun k => bulkheadref29_Reach.l2 k l (outB 0 (has l)) ((0 : Nat) : Int) x0 x1 x2 x3 x4 x5 l6 l7 cs) (fun k => ?_) (l2_ev x0 x1 x2 x3 x4 x5 l6 l7 cs l (by omega) h6 l6.length 0 (by omega) (by omega))⟩
      simp only [bulkheadref29_Reach.l0]
      rw [if_neg (by decide)]
      rfl
    | true =>
      rw [if_pos rfl] at h3
      have hr := round_comes x0 x1 x2 x3 x4 x5 l6 l7 cs (q := q) (M := M + 1) hc h6 (fun l mo hm => by
        obtain ⟨k1, k2, k3⟩ := hm
        refine ih l mo k1 k2 ?_ (fun e => ?_)
        · cases mo with
          | true =>
            rw [if_pos rfl] at k3 ⊢
            omega
          | false =>
            rw [if_neg (by decide)] at k3 ⊢
            omega
        · rw [e, if_neg (by decide)] at k3
          intro x hx
          obtain ⟨j, hj, rfl⟩ := List.getElem_of_mem hx
          have h9 := k3.2 j hj
          have e2 : rd_T31 cs (j : Int) = cs[j] := by simp [rd_T31, hj]
          rwa [e2] at h9) cs.length 0 (by omega) (by omega) l false ⟨h1, h2, by rw [if_neg (by decide)]; exact ⟨h3, fun j hj => absurd hj (by omega)⟩⟩
      obtain ⟨s, h7, h8⟩ := hr
      refine ⟨s, h7, Ev.step (f := fun k => bulkheadref29_Reach.l1 k l false ((0 : Nat) : Int) x0 x1 x2 x3 x4 x5 l6 l7 cs) (fun k => ?_) h8⟩
      simp only [bulkheadref29_Reach.l0]
      rw [if_pos trivial]
      rfl
/-- What the document's Reach comes to. -/
theorem ref_comes (q : Int) (hc : cs.length ≤ 1000) (h6 : l6.length ≤ 1000) :
    (¬ inR l6.length q → Ev (fun k => bulkheadref29_Reach.f k x0 x1 x2 x3 x4 x5 l6 l7 cs q) []) ∧ (inR l6.length q → Comes l6 cs q (fun k => bulkheadref29_Reach.f k x0 x1 x2 x3 x4 x5 l6 l7 cs q)) := by
  constructor
  · intro h
    refine Ev.congr (f := fun k => bulkheadref29_Reach.j0 k q true x0 x1 x2 x3 x4 x5 l6 l7 cs) (fun k => ?_) (Ev.step (f := fun _ => some []) (fun k => ?_) (Ev.now _))
    · unfold bulkheadref29_Reach.f
      by_cases c : q < 0
      · rw [if_pos c]
      · rw [if_neg c, decide_eq_true (show q ≥ (l6.length : Int) by
          unfold inR at h
          omega)]
    · simp only [bulkheadref29_Reach.j0]
      rw [if_pos trivial]
  · rintro ⟨h0, h1⟩
    have hl : has [q] q = true := by simp [has]
    have hone : ∀ p, has [q] p = true → p = q := fun p hp => by simpa [has] using hp
    have hms : miss l6.length (has [q]) < miss l6.length (fun _ => false) := miss_lt (v := q) ⟨h0, h1⟩ rfl (fun p => by
      show has [q] p = _
      unfold has
      rw [Bool.eq_iff_iff]
      simp)
    have hm2 := miss_le l6.length (fun _ => false)
    obtain ⟨s, h7, h8⟩ := all_comes x0 x1 x2 x3 x4 x5 l6 l7 cs (q := q) hc h6 (2 * miss l6.length (has [q]) + 1) [q] true ⟨hl, fun p hp => by rw [hone p hp]; exact ⟨h0, h1⟩, fun T t _ _ p hp => by rw [hone p hp]; exact t⟩ (by
      show 1 + _ ≤ _
      omega) (by rw [if_pos rfl]; omega) (fun e => by cases e)
    refine ⟨s, h7, Ev.congr (f := fun k => bulkheadref29_Reach.j0 k q false x0 x1 x2 x3 x4 x5 l6 l7 cs) (fun k => ?_) (Ev.step (f := fun k => bulkheadref29_Reach.l0 k [q] true x0 x1 x2 x3 x4 x5 l6 l7 cs) (fun k => ?_) h8)⟩
    · unfold bulkheadref29_Reach.f
      rw [if_neg (by omega), decide_eq_false (show ¬ q ≥ (l6.length : Int) by omega)]
    · simp only [bulkheadref29_Reach.j0]
      rw [if_neg (by decide)]
end
end Go.Proofs.Ytemblbcbkfkbfaa.ReachRef
