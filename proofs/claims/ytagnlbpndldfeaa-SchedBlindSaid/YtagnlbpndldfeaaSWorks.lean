/- The chapter's example, and what others spend. -/
import Derived.Test.YtagnlbpndldfeaaSLive
import Derived.Test.YtagnlbpndldfeaaSNew
namespace Go.Proofs.Ytagnlbpndldfeaa.SWorks
open Go.RowKit Go.Proofs.Ytagnlbpndldfeaa.PSchedPlays Go.Proofs.YtagnlbpndldfeaaW.PrintWords Go.Proofs.YtagnlbpndldfeaaW.PrintLast Go.Proofs.YtagnlbpndldfeaaW.PrintMore Go.Proofs.Ytagnlbpndldfeaa.Aid Go.Proofs.Ytagnlbpndldfeaa.PlanBase Go.Proofs.Ytagnlbpndldfeaa.SPlanAt Go.Proofs.Ytagnlbpndldfeaa.SPlanStart Go.Proofs.Ytagnlbpndldfeaa.SPlanCalls Go.Proofs.Ytagnlbpndldfeaa.SPlanBudget Go.Proofs.Ytagnlbpndldfeaa.SBase Go.Proofs.Ytagnlbpndldfeaa.SState Go.Proofs.Ytagnlbpndldfeaa.SLeave Go.Proofs.Ytagnlbpndldfeaa.SEnter Go.Proofs.Ytagnlbpndldfeaa.SCycPure Go.Proofs.Ytagnlbpndldfeaa.SLive Go.Proofs.Ytagnlbpndldfeaa.SNew
set_option linter.unusedVariables false
set_option linter.unusedSimpArgs false
theorem ex_reads (w : World) : Kd.C k45 (w.alloc (.cells #[.int .i64 0, .int .i64 0, .int .i64 300, .int .i64 1, .int .i64 500, .int .i64 100] 45)) (some ⟨w.heap.size, 0, none⟩) ex.length ex := by
  have hr : k45.R 45 (w.alloc (.cells #[.int .i64 0, .int .i64 0, .int .i64 300, .int .i64 1, .int .i64 500, .int .i64 100] 45)) w.heap.size (fun _ => True) (.slice (some ⟨w.heap.size, 0, none⟩) ex.length ex.length) ex := by
    refine ⟨fun _ _ => trivial, [.int .i64 0, .int .i64 0, .int .i64 300, .int .i64 1, .int .i64 500, .int .i64 100], ?_, ?_⟩
    · have h2 := World.ownsRow_lit (base := w.heap.size) (e := 45) (size := k45.sz) w #[.int .i64 0, .int .i64 0, .int .i64 300, .int .i64 1, .int .i64 500, .int .i64 100] ex.length (Nat.le_refl _) (by simp [maxLen, ex]) (by rfl)
      simpa using h2
    · exact Reps.c3 (k45_mkM _ _ _ (⟨0, 0, 300⟩ : S45)) (Reps.c3 (k45_mkM _ _ _ (⟨1, 500, 100⟩ : S45)) (Reps.none _ _))
  obtain ⟨A, c, e, hc, hC⟩ := Kd.R_reads hr
  injection e with e1 e2 e3
  rw [e1]
  exact hC
theorem ex_win : Win 1000 60 ex 0 0 0 300 200 40 := by
  have := win_of (M := 1000) (G := 60) (l := ex) (j := 0) (i := 0) (fit_of ex_new).1 (fit_of ex_new).2 (by omega) (by omega) (by decide) (by omega) (by omega)
  exact this
set_option maxHeartbeats 3200000 in
set_option maxRecDepth 100000 in
theorem works_calls (w : World) : Calls Try.prog 7 #[] w fun e w' => e = .returned (.bool true) ∧ Below w.heap.size w w' := by
  have HC := Aside0.mk (ex_reads w)
  have HB0 : Aside0 (Below w.heap.size w (w.alloc (.cells #[.int .i64 0, .int .i64 0, .int .i64 300, .int .i64 1, .int .i64 500, .int .i64 100] 45))) := ⟨below_alloc (Below.refl _ _) _⟩
  go_enter Try.func7, Try.ntmps7
  go_wp2_with fail
  generalize w.alloc (.cells #[.int .i64 0, .int .i64 0, .int .i64 300, .int .i64 1, .int .i64 500, .int .i64 100] 45) = w1 at *
  refine (new_calls 0 1000 60 0 0 0 none (some ⟨w.heap.size, 0, none⟩) none 0 0 2 0 0 ex w1 HC.out (by unfold ex; intro x hx; simp at hx; rcases hx with rfl | rfl <;> simp)).mono ?_
  rintro e w2 ⟨hB, h⟩
  rcases h with ⟨hne, rfl⟩ | ⟨h0, p, rfl, hg, hg2, hR⟩
  · exact absurd ex_new hne
  have HB := Aside0.mk (below_step HB0.out hB)
  have HN : Aside0 (Newer w1 p) := ⟨hg, hg2⟩
  have HN0 : Aside0 (Newer w p) := ⟨Nat.le_trans HB0.out.size hg, hg2⟩
  have HR := Aside0.mk (show Outs w2 p 1000 60 ex 0 from hR)
  clear hB hR h0 HC HB0 hg hg2
  go_wp2_with fail
  refine (enter_live ex_win HR.out (by decide) (by omega) (by omega)).mono ?_
  rintro e w3 ⟨rfl, hR, hM⟩
  have HB3 := Aside0.mk (HR.out.newer HN0.out HB.out hM)
  have HR3 := Aside0.mk hR
  have c0 := clk_live hR
  clear hR hM HB HR
  go_wp2_with fail
  refine (now_live HR3.out).mono ?_
  rintro e w4 ⟨rfl, rfl⟩
  go_wp2_with fail
  refine (may_live HR3.out).mono ?_
  rw [show decide ((0 : Int) < 200) = true from rfl]
  rintro e w4 ⟨rfl, m, rfl⟩
  clear c0
  go_wp2_with fail
  refine (spend_live ex_win (HR3.out.drewN m) ⟨by omega, by omega⟩ 61).mono ?_
  rw [show spE 200 0 60 61 = 142 by decide, show spU 200 0 60 61 = 0 by decide]
  rintro e w4 ⟨rfl, hR, hM⟩
  have HB4 := Aside0.mk ((HR3.out.drewN m).newer HN0.out (pw_below_drewN HB3.out m) hM)
  have HR4 := Aside0.mk hR
  clear hR hM HB3 HR3
  go_wp2_with fail
  refine (spend_live ex_win HR4.out ⟨by omega, by omega⟩ 60).mono ?_
  rw [show spE 200 0 60 60 = 0 by decide, show spU 200 0 60 60 = 60 by decide]
  rintro e w5 ⟨rfl, hR, hM⟩
  have HB5 := Aside0.mk (HR4.out.newer HN0.out HB4.out hM)
  have HR5 := Aside0.mk hR
  have c0 := clk_live hR
  clear hR hM HB4 HR4
  go_wp2_with fail
  refine (now_live HR5.out).mono ?_
  rintro e w6 ⟨rfl, rfl⟩
  clear c0
  go_wp2_with fail
  refine (leave_live ex_win HR5.out ⟨by omega, by omega⟩).mono ?_
  rintro e w6 ⟨rfl, hR, hM⟩
  have HB6 := Aside0.mk (HR5.out.newer HN0.out HB5.out hM)
  have HR6 := Aside0.mk hR
  have c0 := clk_out hR
  clear hR hM HB5 HR5
  go_wp2_with fail
  refine (now_out HR6.out).mono ?_
  rintro e w7 ⟨rfl, rfl⟩
  clear c0
  go_wp2_with fail
  refine (may_out HR6.out).mono ?_
  rintro e w8 ⟨rfl, m2, rfl⟩
  go_wp2_with fail
  go_ret
  exact ⟨rfl, pw_below_drewN HB6.out m2⟩
/-- What others spend in a window: it is used up a little more. -/
def Idled (w : World) (p : Pl) (M G : Int) (l : List S45) (j : Int) (i : Nat) (y B bg last : Int) (w0 : World) (e : Ending) (w' : World) : Prop :=
  e = .returned (.tuple #[]) ∧ ∃ u', Use y u' ∧ Ins w' p M G l j i bg B u' last ∧ Moves w w' (S3 p)
theorem red_bd (x : Int) {G : Int} (g0 : 0 ≤ G) (g1 : G ≤ 16777216) : ∃ n : Int, 0 ≤ n ∧ n ≤ G ∧ wrap64 ((IntKind.u64.wrap x).tmod (G + 1)) = n := by
  rw [u64w, Int.tmod_eq_emod_of_nonneg (by omega)]
  have h0 := Int.emod_nonneg (x % 18446744073709551616) (show G + 1 ≠ 0 by omega)
  have h1 := Int.emod_lt_of_pos (x % 18446744073709551616) (show 0 < G + 1 by omega)
  exact ⟨_, h0, by omega, w64 (by omega) (by omega)⟩
set_option maxHeartbeats 3200000 in
set_option maxRecDepth 100000 in
theorem idles_calls {w0 w : World} {p : Pl} {M G : Int} {l : List S45} {j : Int} {i : Nat} {s y B bg u last : Int} (W : Aside0 (Win M G l j i s y B bg)) (h : Aside0 (Ins w p M G l j i bg B u last)) (hu : Aside0 (Use y u)) (hn : Aside0 (Newer w0 p)) (hb : Aside0 (Below w0.heap.size w0 w)) (A : Option Addr) (zs : List Int) (c : Nat) (hz : Aside0 ((Kd.int .i64).C w0 A zs.length zs)) (k : Int) :
    Calls Try.prog 13 #[.pointer (some ⟨p.gs, 0, none⟩), .int .i64 G, .slice A zs.length c, .int .i64 k] w (Idled w p M G l j i y B bg last w0) := by
  have g0 := W.out.g0
  have g1 := W.out.g1
  go_enter Try.func13, Try.ntmps13
  go_wp2_with fail
  go_loopw [8] (fun v wr => ∃ (n : Nat) (u' : Int), v = .int .i64 n ∧ n ≤ 10 ∧ Aside0 (Use y u') ∧ Aside0 (Ins wr p M G l j i bg B u' last) ∧ Aside0 (Moves w wr (S3 p))) (fun v _ => 10 - (intOf v).toNat)
  case atStart => exact ⟨0, u, rfl, by omega, hu, h, ⟨Moves.refl _ _⟩⟩
  case round =>
    obtain ⟨n, u', rfl, hn10, HU, HI, HM⟩ := hrel
    by_cases hlt : n < zs.length ∧ n < 10
    · obtain ⟨h1, h2⟩ := hlt
      have HBr := Aside0.mk (h.out.newer hn.out hb.out HM.out)
      obtain ⟨ad, hA, hx⟩ := Kd.at_int (Kd.C_below hz.out HBr.out) (n : Int) (by omega) (by omega)
      subst hA
      rw [Int.toNat_natCast] at hx
      have d1 : decide ((n : Int) < (zs.length : Int)) = true := decide_eq_true (by omega)
      have d2 : decide ((n : Int) < 10) = true := decide_eq_true (by omega)
      have d3 : decide (n < zs.length) = true := decide_eq_true h1
      generalize rd zs (n : Int) = x at *
      obtain ⟨q, q0, q1, hq⟩ := red_bd (wrap64 (x + k)) g0 g1
      go_wp2_with fail
      rw [hq]
      clear hq
      refine (spend_live W.out HI.out HU.out q).mono ?_
      rintro e wn ⟨rfl, hI, hm⟩
      have HU2 := Aside0.mk (use_sp W.out HU.out q)
      have HI2 := Aside0.mk hI
      have HM2 := Aside0.mk (Moves.step HM.out hm)
      clear hI hm hx HI HM HU HBr
      go_wp2_with fail
      go_roundw
      case rel => exact ⟨n + 1, _, by go_num, by omega, HU2, HI2, HM2⟩
      case measure => simp [intOf]; omega
    · by_cases h1 : n < zs.length
      · have h2 : n = 10 := by omega
        subst h2
        have d1 : decide (((10 : Nat) : Int) < (zs.length : Int)) = true := decide_eq_true (by omega)
        have d1' : decide ((10 : Int) < (zs.length : Int)) = true := decide_eq_true (by omega)
        go_wp2_with fail
        go_end0
        exact ⟨rfl, u', HU.out, HI.out, HM.out⟩
      · have d1 : decide ((n : Int) < (zs.length : Int)) = false := decide_eq_false (by omega)
        have d3 : decide (n < zs.length) = false := decide_eq_false h1
        go_wp2_with fail
        go_end0
        exact ⟨rfl, u', HU.out, HI.out, HM.out⟩
end Go.Proofs.Ytagnlbpndldfeaa.SWorks
