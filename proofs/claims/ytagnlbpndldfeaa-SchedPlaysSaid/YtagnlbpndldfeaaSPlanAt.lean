/- What the methods At, Next and Start of a frame table come to: the walks. -/
import Derived.Test.YtagnlbpndldfeaaPlanBase
import Derived.Deep.QuietTactic
import Derived.BigQuiet
namespace Go.Proofs.Ytagnlbpndldfeaa.SPlanAt
open Go.RowKit Go.Proofs.Ytagnlbpndldfeaa.PSchedPlays Go.Proofs.YtagnlbpndldfeaaW.PrintWords Go.Proofs.YtagnlbpndldfeaaW.PrintLast Go.Proofs.YtagnlbpndldfeaaW.PrintMore Go.Proofs.Ytagnlbpndldfeaa.Aid Go.Proofs.Ytagnlbpndldfeaa.PlanBase

/-- Windows that may stand in a major frame. -/
def Fit (M : Int) (l : List S45) : Prop := 1 ≤ M ∧ M ≤ 16777216 ∧ l.length ≤ 32 ∧ ∀ x ∈ l, 0 ≤ x.f1 ∧ x.f1 ≤ M ∧ 1 ≤ x.f2 ∧ x.f2 ≤ M - x.f1
def atIdx (x : Int) : Nat → List S45 → Option Nat
  | _, [] => none
  | i, y :: r => if y.f1 ≤ x ∧ x < y.f1 + y.f2 then some i else atIdx x (i + 1) r
def idxOf : Option Nat → Int
  | none => -1
  | some i => (i : Int)
def nextMaj (q : Int) : Option Nat → Int
  | none => q + 1
  | some _ => q
def nextWin : Option Nat → Int
  | none => 0
  | some i => (i : Int)
def nextIdx (x : Int) : Nat → List S45 → Option Nat
  | _, [] => none
  | i, y :: r => if x ≤ y.f1 then some i else nextIdx x (i + 1) r
set_option maxHeartbeats 1600000 in
set_option maxRecDepth 100000 in
theorem next_in (g : Nat) (M G t q x : Int) (hq : Aside0 (t / M = q)) (hx : Aside0 (t % M = x)) (l : List S45) (w : World) (hP : Aside0 (Plan 90 w g M G l)) (hF : Aside0 (Fit M l)) (M0 : 1 ≤ M) (M1 : M ≤ 16777216) (hl : l.length ≤ 32) (t0 : 0 ≤ t) (t1 : t ≤ 281474976710656) (hne : 0 < l.length) :
    Calls Try.prog 26 #[.pointer (some ⟨g, 0, none⟩), .int .i64 t] w fun e w' => e = .returned (.tuple #[.int .i64 (nextMaj q (nextIdx x 0 l)), .int .i64 (nextWin (nextIdx x 0 l)), .int .i64 0]) ∧ Below w.heap.size w w' := by
  obtain ⟨A, c, hb, hr, hc⟩ := hP.out
  have HR := Aside0.mk hr
  have c0 : w.cell? ⟨g, 0, none⟩ = some (.int .i64 M) := (blk_cell hb 0).trans rfl
  have c2 : w.cell? ⟨g, 2, none⟩ = some (.slice A l.length c) := (blk_cell hb 2).trans rfl
  have C0 := Aside0.mk c0
  have C2 := Aside0.mk c2
  have hgl := blk_lt hb
  clear hb hr hc
  have d0 : 0 ≤ t / M := Int.ediv_nonneg t0 (by omega)
  have d1 : t / M ≤ t := Int.ediv_le_self _ t0
  have d2 := Int.emod_nonneg t (show M ≠ 0 by omega)
  have d3 := Int.emod_lt_of_pos t (show 0 < M by omega)
  have hz : ((l.length : Int) == 0) = false := by
    rw [beq_eq_false_iff_ne]
    omega
  go_enter Try.func26, Try.ntmps26
  go_wp2_with fail
  go_quiet (fail)
  go_wp2_with fail
  have q0 := d0
  have q1 := d1
  have p0 := d2
  have p1 := d3
  rw [hq.out] at q0 q1
  rw [hx.out] at p0 p1
  rw [hq.out, hx.out]
  clear d0 d1 d2 d3
  go_loopw [41] (fun u wr => ∃ i : Nat, u = .int .i64 i ∧ i ≤ l.length ∧ Aside0 (nextIdx x i (l.drop i) = nextIdx x 0 l) ∧ Aside0 (Below w.heap.size w wr)) (fun u _ => l.length - (intOf u).toNat)
  case atStart => exact ⟨0, rfl, by omega, ⟨by rw [List.drop_zero]⟩, ⟨by repeat (first | exact Below.refl _ _ | apply pw_below_drewN)⟩⟩
  case round =>
    clear c0 c2
    obtain ⟨i, rfl, hi, HC, HB⟩ := hrel
    by_cases hlt : i < l.length
    · skip
      obtain ⟨ad, hA, hx0, hx1, hx2⟩ := at_T45 (Kd.C_below HR.out HB.out) (i : Int) (by omega) (by omega)
      rw [Int.toNat_natCast] at hx0 hx1 hx2
      obtain ⟨u0, u1, v0, v1⟩ := hF.out.2.2.2 _ (rd_mem l i hlt)
      have e0 := (HB.out.cell (p := ⟨g, 0, none⟩) hgl).trans C0.out
      have e2 := (HB.out.cell (p := ⟨g, 2, none⟩) hgl).trans C2.out
      have HC2 : Aside0 ((if x ≤ (rd_T45 l (i : Int)).f1 then some i else nextIdx x (i + 1) (l.drop (i + 1))) = nextIdx x 0 l) := ⟨by
        rw [← HC.out, drop_rd l i hlt]
        rfl⟩
      clear HC
      subst hA
      obtain ⟨y0, hy0⟩ : ∃ y, (rd_T45 l (i : Int)).f0 = y := ⟨_, rfl⟩
      obtain ⟨y1, hy1⟩ : ∃ y, (rd_T45 l (i : Int)).f1 = y := ⟨_, rfl⟩
      obtain ⟨y2, hy2⟩ : ∃ y, (rd_T45 l (i : Int)).f2 = y := ⟨_, rfl⟩
      rw [hy0] at hx0
      rw [hy1] at hx1 u0 u1 v1
      rw [hy2] at hx2 v0 v1
      have HC3 : Aside0 ((if x ≤ y1 then some i else nextIdx x (i + 1) (l.drop (i + 1))) = nextIdx x 0 l) := ⟨by
        have h := HC2.out
        rw [hy1] at h
        skip
        exact h⟩
      clear hy0 hy1 hy2 HC2
      by_cases a1 : x ≤ y1
      · have HE : Aside0 (nextIdx x 0 l = some i) := ⟨by rw [← HC3.out, if_pos a1]⟩
        have f1 := decide_eq_true a1
        clear HC3
        go_wp2_with fail
        go_ret3
        exact ⟨by rw [HE.out]; rfl, by repeat (first | exact HB.out | apply pw_below_drewN | apply below_drew)⟩
      · have HE : Aside0 (nextIdx x (i + 1) (l.drop (i + 1)) = nextIdx x 0 l) := ⟨by rw [← HC3.out, if_neg a1]⟩
        have f1 := decide_eq_false a1
        clear HC3
        go_wp2_with fail
        go_roundw
        case rel => exact ⟨i + 1, by go_num, by omega, HE, ⟨by repeat (first | exact HB.out | apply pw_below_drewN | apply below_drew)⟩⟩
        case measure =>
          simp [intOf]
          omega
    · have HE : Aside0 (nextIdx x 0 l = none) := ⟨by
        rw [← HC.out, List.drop_of_length_le (by omega)]
        rfl⟩
      have e0 := (HB.out.cell (p := ⟨g, 0, none⟩) hgl).trans C0.out
      have e2 := (HB.out.cell (p := ⟨g, 2, none⟩) hgl).trans C2.out
      clear HC
      go_wp2_with fail
      go_ret3
      exact ⟨by rw [HE.out]; rfl, HB.out⟩
set_option maxHeartbeats 1600000 in
set_option maxRecDepth 100000 in
theorem rnext_in (g : Nat) (M G t q x : Int) (hq : Aside0 (t / M = q)) (hx : Aside0 (t % M = x)) (l : List S45) (w : World) (hP : Aside0 (Plan 87 w g M G l)) (hF : Aside0 (Fit M l)) (M0 : 1 ≤ M) (M1 : M ≤ 16777216) (hl : l.length ≤ 32) (t0 : 0 ≤ t) (t1 : t ≤ 281474976710656) (hne : 0 < l.length) :
    Calls Try.prog 37 #[.pointer (some ⟨g, 0, none⟩), .int .i64 t] w fun e w' => e = .returned (.tuple #[.int .i64 (nextMaj q (nextIdx x 0 l)), .int .i64 (nextWin (nextIdx x 0 l)), .int .i64 0]) ∧ Below w.heap.size w w' := by
  obtain ⟨A, c, hb, hr, hc⟩ := hP.out
  have HR := Aside0.mk hr
  have c0 : w.cell? ⟨g, 0, none⟩ = some (.int .i64 M) := (blk_cell hb 0).trans rfl
  have c2 : w.cell? ⟨g, 2, none⟩ = some (.slice A l.length c) := (blk_cell hb 2).trans rfl
  have C0 := Aside0.mk c0
  have C2 := Aside0.mk c2
  have hgl := blk_lt hb
  clear hb hr hc
  have d0 : 0 ≤ t / M := Int.ediv_nonneg t0 (by omega)
  have d1 : t / M ≤ t := Int.ediv_le_self _ t0
  have d2 := Int.emod_nonneg t (show M ≠ 0 by omega)
  have d3 := Int.emod_lt_of_pos t (show 0 < M by omega)
  have hz : ((l.length : Int) == 0) = false := by
    rw [beq_eq_false_iff_ne]
    omega
  go_enter Try.func37, Try.ntmps37
  go_wp2_with fail
  go_loopw [7] (fun u wr => ∃ i : Nat, u = .int .i64 i ∧ i ≤ l.length ∧ Aside0 (nextIdx x i (l.drop i) = nextIdx x 0 l) ∧ Aside0 (Below w.heap.size w wr)) (fun u _ => l.length - (intOf u).toNat)
  case atStart => exact ⟨0, rfl, by omega, ⟨by rw [List.drop_zero]⟩, ⟨by repeat (first | exact Below.refl _ _ | apply pw_below_drewN)⟩⟩
  case round =>
    clear c0 c2
    obtain ⟨i, rfl, hi, HC, HB⟩ := hrel
    by_cases hlt : i < l.length
    · skip
      obtain ⟨ad, hA, hx0, hx1, hx2⟩ := at_T45 (Kd.C_below HR.out HB.out) (i : Int) (by omega) (by omega)
      rw [Int.toNat_natCast] at hx0 hx1 hx2
      obtain ⟨u0, u1, v0, v1⟩ := hF.out.2.2.2 _ (rd_mem l i hlt)
      have e0 := (HB.out.cell (p := ⟨g, 0, none⟩) hgl).trans C0.out
      have e2 := (HB.out.cell (p := ⟨g, 2, none⟩) hgl).trans C2.out
      have HC2 : Aside0 ((if x ≤ (rd_T45 l (i : Int)).f1 then some i else nextIdx x (i + 1) (l.drop (i + 1))) = nextIdx x 0 l) := ⟨by
        rw [← HC.out, drop_rd l i hlt]
        rfl⟩
      clear HC
      subst hA
      obtain ⟨y0, hy0⟩ : ∃ y, (rd_T45 l (i : Int)).f0 = y := ⟨_, rfl⟩
      obtain ⟨y1, hy1⟩ : ∃ y, (rd_T45 l (i : Int)).f1 = y := ⟨_, rfl⟩
      obtain ⟨y2, hy2⟩ : ∃ y, (rd_T45 l (i : Int)).f2 = y := ⟨_, rfl⟩
      rw [hy0] at hx0
      rw [hy1] at hx1 u0 u1 v1
      rw [hy2] at hx2 v0 v1
      have HC3 : Aside0 ((if t % M ≤ y1 then some i else nextIdx x (i + 1) (l.drop (i + 1))) = nextIdx x 0 l) := ⟨by
        have h := HC2.out
        rw [hy1] at h
        rw [hx.out]
        exact h⟩
      clear hy0 hy1 hy2 HC2
      by_cases a1 : t % M ≤ y1
      · have HE : Aside0 (nextIdx x 0 l = some i) := ⟨by rw [← HC3.out, if_pos a1]⟩
        have f1 := decide_eq_true a1
        clear HC3
        go_wp2_with fail
        go_quiet (fail)
        go_wp2_with fail
        go_ret3
        exact ⟨by rw [HE.out, ← hq.out]; rfl, by repeat (first | exact HB.out | apply pw_below_drewN | apply below_drew)⟩
      · have HE : Aside0 (nextIdx x (i + 1) (l.drop (i + 1)) = nextIdx x 0 l) := ⟨by rw [← HC3.out, if_neg a1]⟩
        have f1 := decide_eq_false a1
        clear HC3
        go_wp2_with fail
        go_quiet (fail)
        go_wp2_with fail
        go_roundw
        case rel => exact ⟨i + 1, by go_num, by omega, HE, ⟨by repeat (first | exact HB.out | apply pw_below_drewN | apply below_drew)⟩⟩
        case measure =>
          simp [intOf]
          omega
    · have HE : Aside0 (nextIdx x 0 l = none) := ⟨by
        rw [← HC.out, List.drop_of_length_le (by omega)]
        rfl⟩
      have e0 := (HB.out.cell (p := ⟨g, 0, none⟩) hgl).trans C0.out
      have e2 := (HB.out.cell (p := ⟨g, 2, none⟩) hgl).trans C2.out
      clear HC
      go_wp2_with fail
      go_ret3
      exact ⟨by rw [HE.out, ← hq.out]; rfl, HB.out⟩
set_option maxHeartbeats 1600000 in
theorem next_out (g : Nat) (M G t : Int) (l : List S45) (w : World) (hP : Aside0 (Plan 90 w g M G l)) (ht : t < 0 ∨ 281474976710656 < t ∨ l.length = 0) :
    Calls Try.prog 26 #[.pointer (some ⟨g, 0, none⟩), .int .i64 t] w fun e w' => e = .returned (.tuple #[.int .i64 0, .int .i64 0, .int .i64 2]) ∧ Below w.heap.size w w' := by
  obtain ⟨A, c, hb, hr, hc⟩ := hP.out
  have c2 : w.cell? ⟨g, 2, none⟩ = some (.slice A l.length c) := (blk_cell hb 2).trans rfl
  clear hb hr hc
  rcases ht with ht | ht | ht
  · go_enter Try.func26, Try.ntmps26
    go_wp2_with fail
    go_ret3
    exact ⟨rfl, Below.refl _ _⟩
  · go_enter Try.func26, Try.ntmps26
    go_wp2_with fail
    go_ret3
    exact ⟨rfl, Below.refl _ _⟩
  · rw [ht] at c2
    by_cases h1 : t < 0
    · go_enter Try.func26, Try.ntmps26
      go_wp2_with fail
      go_ret3
      exact ⟨rfl, Below.refl _ _⟩
    · by_cases h2 : 281474976710656 < t
      · go_enter Try.func26, Try.ntmps26
        go_wp2_with fail
        go_ret3
        exact ⟨rfl, Below.refl _ _⟩
      · go_enter Try.func26, Try.ntmps26
        go_wp2_with fail
        go_ret3
        exact ⟨rfl, Below.refl _ _⟩
set_option maxHeartbeats 1600000 in
theorem rnext_out (g : Nat) (M G t : Int) (l : List S45) (w : World) (hP : Aside0 (Plan 87 w g M G l)) (ht : t < 0 ∨ 281474976710656 < t ∨ l.length = 0) :
    Calls Try.prog 37 #[.pointer (some ⟨g, 0, none⟩), .int .i64 t] w fun e w' => e = .returned (.tuple #[.int .i64 0, .int .i64 0, .int .i64 2]) ∧ Below w.heap.size w w' := by
  obtain ⟨A, c, hb, hr, hc⟩ := hP.out
  have c2 : w.cell? ⟨g, 2, none⟩ = some (.slice A l.length c) := (blk_cell hb 2).trans rfl
  clear hb hr hc
  rcases ht with ht | ht | ht
  · go_enter Try.func37, Try.ntmps37
    go_wp2_with fail
    go_ret3
    exact ⟨rfl, Below.refl _ _⟩
  · go_enter Try.func37, Try.ntmps37
    go_wp2_with fail
    go_ret3
    exact ⟨rfl, Below.refl _ _⟩
  · rw [ht] at c2
    by_cases h1 : t < 0
    · go_enter Try.func37, Try.ntmps37
      go_wp2_with fail
      go_ret3
      exact ⟨rfl, Below.refl _ _⟩
    · by_cases h2 : 281474976710656 < t
      · go_enter Try.func37, Try.ntmps37
        go_wp2_with fail
        go_ret3
        exact ⟨rfl, Below.refl _ _⟩
      · go_enter Try.func37, Try.ntmps37
        go_wp2_with fail
        go_ret3
        exact ⟨rfl, Below.refl _ _⟩
end Go.Proofs.Ytagnlbpndldfeaa.SPlanAt
