/- Cycles add up; clones go their own way: the walk of the law. -/
import Derived.Test.YtpbjfiahlfoidaaPClockAddsx1
import Derived.Test.YtpbjfiahlfoidaaAid
namespace Go.Proofs.Ytpbjfiahlfoidaa.HandAdds
open Go.RowKit Go.Proofs.Ytpbjfiahlfoidaa.PClockAdds Go.Proofs.YtpbjfiahlfoidaaW.PrintWords Go.Proofs.YtpbjfiahlfoidaaW.PrintLast Go.Proofs.YtpbjfiahlfoidaaW.PrintMore Go.Proofs.Ytpbjfiahlfoidaa.Aid

theorem keepS {w0 W W' : World} {g g' : Nat} {a : Int} {b : Bool} {c : Int} (h : IsS44 w0 W g a b c) (hk : KeepBut W W' g' none) (hne : g ≠ g') : IsS44 w0 W' g a b c := ⟨hk.blk h.1 hne (by simp), h.2⟩
theorem belowS {w0 W W' : World} {g : Nat} {a : Int} {b : Bool} {c : Int} (h : IsS44 w0 W g a b c) (hb : Below W.heap.size W W') : IsS44 w0 W' g a b c := ⟨(hb.block g (blk_lt h.1)).trans h.1, h.2⟩
theorem baseS {w0 w1 W : World} {g : Nat} {a : Int} {b : Bool} {c : Int} (h : IsS44 w1 W g a b c) (hs : w0.heap.size ≤ w1.heap.size) : IsS44 w0 W g a b c := ⟨h.1, Nat.le_trans hs h.2⟩
theorem neS {w0 W1 W : World} {g g' : Nat} {a a' : Int} {b b' : Bool} {c c' : Int} (h : IsS44 w0 W1 g a b c) (h' : IsS44 W1 W g' a' b' c') : g ≠ g' := by
  have h1 := blk_lt h.1
  have h2 := h'.2
  omega
set_option maxHeartbeats 800000 in
theorem clone_calls (g : Nat) (a : Int) (b : Bool) (c : Int) (w0 w : World) (hI : IsS44 w0 w g a b c) :
    Calls Try.prog 12 #[.pointer (some ⟨g, 0, none⟩)] w fun e w' => ∃ g' : Nat, e = .returned (.pointer (some ⟨g', 0, none⟩)) ∧ IsS44 w w' g' a b c ∧ Below w.heap.size w w' := by
  obtain ⟨HG, hg⟩ := hI
  have hc0 := cellS44_0 HG
  have hc1 := cellS44_1 HG
  have hc2 := cellS44_2 HG
  clear HG hg
  go_enter Try.func12, Try.ntmps12
  go_wp2
  go_ret
  refine ⟨_, rfl, ⟨?_, Nat.le_refl _⟩, (Below.refl _ _).alloc (Nat.le_refl _) _⟩
  exact heap_alloc_new w _
theorem adv {s n t : Int} {b : Bool} (h0 : 0 ≤ s) (h1 : s ≤ 281474976710656) (n0 : 0 ≤ n) (n1 : n ≤ 281474976710656 - s) : clock_Clock_Advance.f s b t n = some (0, s + n, b, t) := by
  unfold clock_Clock_Advance.f
  rw [if_neg (by omega), w64 (x := 281474976710656 - s) (by omega) (by omega), if_neg (by omega), w64 (by omega) (by omega)]
theorem adv_no {s n t : Int} {b : Bool} (h0 : 0 ≤ s) (h1 : s ≤ 281474976710656) (n1 : n < 0 ∨ 281474976710656 - s < n) : clock_Clock_Advance.f s b t n = some (2, s, b, t) := by
  unfold clock_Clock_Advance.f
  rw [w64 (x := 281474976710656 - s) (by omega) (by omega)]
  by_cases hn : n < 0
  · rw [if_pos hn]
  · rw [if_neg hn, if_pos (by omega)]
set_option maxHeartbeats 1600000 in
set_option maxRecDepth 100000 in
theorem first (A : Option Addr) (c : Nat) (l : List Int) (more M : Int) (w : World) (hM : Aside0 (wrap64 ((IntKind.u64.wrap more).tmod 1073741824) = M)) (M0 : 0 ≤ M) (M1 : M < 1073741824)
    (hr : Aside0 (Kd.C (Kd.int .i64) w A l.length l)) (hlen : l.length ≤ 140737488351232)
    (hn : Aside0 (∀ x : Int, wrap64 ((IntKind.u64.wrap x).tmod 1073741824) = x % 1073741824)) :
    Calls Try.prog 4 #[.slice A l.length c, .int .i64 more] w fun e w' => e = .returned (.bool true) ∧ Below w.heap.size w w' := by
  go_enter Try.func4, Try.ntmps4
  go_wp2_with fail
  refine (clock_New.calls 0 false 0 w w (Below.refl _ _) rfl).mono ?_
  rintro e w1 ⟨g, rfl, hI, hB, -⟩
  have HI := Aside0.mk hI
  have HB := Aside0.mk hB
  clear hI hB
  go_wp2_with fail
  refine (clock_New.calls 0 false 0 w1 w1 (Below.refl _ _) rfl).mono ?_
  rintro e w2 ⟨g2, rfl, hI, hB, -⟩
  have HN := Aside0.mk (neS HI.out hI)
  have HJ := Aside0.mk (baseS hI HB.out.size)
  have HI2 := Aside0.mk (belowS HI.out hB)
  have HB2 := Aside0.mk (below_step HB.out hB)
  clear hI hB HI HB
  go_wp2_with fail
  go_loopw [7, 8] (fun v u wr => ∃ (s : Int) (i : Nat), v = .int .i64 s ∧ u = .int .i64 i ∧ i ≤ l.length ∧ i ≤ 200 ∧ 0 ≤ s ∧ s ≤ (i : Int) * 1073741824 ∧ Aside0 (IsS44 w wr g s false 0) ∧ Aside0 (IsS44 w wr g2 0 false 0) ∧ Aside0 (Below w.heap.size w wr)) (fun _ u _ => l.length - (intOf u).toNat)
  case atStart => exact ⟨0, 0, rfl, rfl, by omega, by omega, by omega, by omega, HI2, HJ, HB2⟩
  case round =>
    obtain ⟨s, i, rfl, rfl, hi, hi2, n0, n1, HI, HJ, HB⟩ := hrel
    clear HI2 HB2
    by_cases hlt : i < l.length ∧ i < 200
    · obtain ⟨h1, h2⟩ := hlt
      obtain ⟨ad, hA, hx⟩ := Kd.at_int hr.out (i : Int) (by omega) (by omega)
      rw [Int.toNat_natCast] at hx
      have hx4 := (HB.out.cell (World.block_lt_of_cell? w _ hx)).trans hx
      subst hA
      clear hx
      go_wp2_with fail
      rw [hn.out]
      refine (clock_Clock_Advance.calls g s false 0 _ 0 _ false 0 w _ HI.out HB.out (adv n0 (by omega) (by omega) (by omega))).mono ?_
      rintro e w5 ⟨rfl, hI, hB, hK⟩
      have HI5 := Aside0.mk hI
      have HB5 := Aside0.mk hB
      have HJ5 := Aside0.mk (keepS HJ.out hK (Ne.symm HN.out))
      clear hI hB hK HI HB HJ hx4
      go_wp2_with fail
      go_roundw
      case rel => exact ⟨_, i + 1, rfl, by go_num, by omega, by omega, by omega, by omega, HI5, HJ5, HB5⟩
      case measure =>
        simp [intOf]
        omega
    · go_wp2_with fail
      all_goals
        refine (clock_Clock_Advance.calls g2 0 false 0 s 0 s false 0 w _ HJ.out HB.out ((adv (by omega) (by omega) n0 (by omega)).trans (by rw [Int.zero_add]))).mono ?_
        rintro e w3 ⟨rfl, hI, hB, hK⟩
        have HJ3 := Aside0.mk hI
        have HB3 := Aside0.mk hB
        have HI3 := Aside0.mk (keepS HI.out hK HN.out)
        clear hI hB hK HI HJ HB
        go_wp2_with fail
        refine (clock_Clock_Now.calls g s false 0 _ _ _ _ w _ HI3.out HB3.out rfl).mono ?_
        rintro e w4 ⟨rfl, hI, hB, hK⟩
        have HI4 := Aside0.mk hI
        have HB4 := Aside0.mk hB
        have HJ4 := Aside0.mk (keepS HJ3.out hK (Ne.symm HN.out))
        clear hI hB hK HI3 HJ3 HB3
        go_wp2_with fail
        refine (clock_Clock_Now.calls g2 s false 0 _ _ _ _ w _ HJ4.out HB4.out rfl).mono ?_
        rintro e w5 ⟨rfl, hI, hB, hK⟩
        have HJ5 := Aside0.mk hI
        have HB5 := Aside0.mk hB
        have HI5 := Aside0.mk (keepS HI4.out hK HN.out)
        clear hI hB hK HI4 HJ4 HB4
        go_wp2_with fail
        refine (clock_Clock_Advance.calls g s false 0 (-1) 2 s false 0 w _ HI5.out HB5.out (adv_no n0 (by omega) (by omega))).mono ?_
        rintro e w6 ⟨rfl, hI, hB, hK⟩
        have HI6 := Aside0.mk hI
        have HB6 := Aside0.mk hB
        clear hI hB hK HI5 HJ5 HB5
        go_wp2_with fail
        refine (clock_Clock_Advance.calls g s false 0 _ 2 s false 0 w _ HI6.out HB6.out (adv_no n0 (by omega) (by omega))).mono ?_
        rintro e w7 ⟨rfl, hI, hB, hK⟩
        have HI7 := Aside0.mk hI
        have HB7 := Aside0.mk hB
        clear hI hB hK HI6 HB6
        go_wp2_with fail
        refine (clone_calls g s false 0 w _ HI7.out).mono ?_
        rintro e w8 ⟨g3, rfl, hI, hB⟩
        have HN3 := Aside0.mk (neS HI7.out hI)
        have HJ8 := Aside0.mk (baseS hI HB7.out.size)
        have HI8 := Aside0.mk (belowS HI7.out hB)
        have HB8 := Aside0.mk (below_step HB7.out hB)
        clear hI hB HI7 HB7
        go_wp2_with fail
        rw [hM.out]
        refine (clock_Clock_Advance.calls g3 s false 0 M 0 (s + M) false 0 w _ HJ8.out HB8.out (adv n0 (by omega) M0 (by omega))).mono ?_
        rintro e w9 ⟨rfl, hI, hB, hK⟩
        have HJ9 := Aside0.mk hI
        have HB9 := Aside0.mk hB
        have HI9 := Aside0.mk (keepS HI8.out hK HN3.out)
        clear hI hB hK HI8 HJ8 HB8
        go_wp2_with fail
        refine (clock_Clock_Now.calls g3 (s + M) false 0 _ _ _ _ w _ HJ9.out HB9.out rfl).mono ?_
        rintro e w10 ⟨rfl, hI, hB, hK⟩
        have HJ10 := Aside0.mk hI
        have HB10 := Aside0.mk hB
        have HI10 := Aside0.mk (keepS HI9.out hK HN3.out)
        clear hI hB hK HI9 HJ9 HB9
        go_wp2_with fail
        refine (clock_Clock_Now.calls g s false 0 _ _ _ _ w _ HI10.out HB10.out rfl).mono ?_
        rintro e w11 ⟨rfl, hI, hB, hK⟩
        have HI11 := Aside0.mk hI
        have HB11 := Aside0.mk hB
        have HJ11 := Aside0.mk (keepS HJ10.out hK (Ne.symm HN3.out))
        clear hI hB hK HI10 HJ10 HB10
        go_wp2_with fail
        refine (clock_Clock_Arm.calls g3 (s + M) false 0 s 0 (s + M) true s w _ HJ11.out HB11.out (by unfold clock_Clock_Arm.f; rw [if_neg (by omega), if_neg (by omega)])).mono ?_
        rintro e w12 ⟨rfl, hI, hB, hK⟩
        have HJ12 := Aside0.mk hI
        have HB12 := Aside0.mk hB
        have HI12 := Aside0.mk (keepS HI11.out hK HN3.out)
        clear hI hB hK HI11 HJ11 HB11
        go_wp2_with fail
        refine (clock_Clock_Fired.calls g3 (s + M) true s true (s + M) true s w _ HJ12.out HB12.out (by unfold clock_Clock_Fired.f; rw [if_pos rfl, decide_eq_true (by omega)])).mono ?_
        rintro e w13 ⟨rfl, hI, hB, hK⟩
        have HB13 := Aside0.mk hB
        have HI13 := Aside0.mk (keepS HI12.out hK HN3.out)
        clear hI hB hK HI12 HJ12 HB12
        go_wp2_with fail
        refine (clock_Clock_Fired.calls g s false 0 false s false 0 w _ HI13.out HB13.out rfl).mono ?_
        rintro e w14 ⟨rfl, hI, hB, hK⟩
        have HB14 := Aside0.mk hB
        clear hI hB hK HI13 HB13
        go_wp2_with fail
        go_ret
        exact ⟨rfl, by repeat (first | exact HB14.out | apply pw_below_drewN | apply below_drew)⟩
theorem walk (a0 : Option Addr) (len0 cap0 : Nat) (z0 : List Int) (more : Int) (w : World)
    (w0 : (a0 = none ∧ len0 = 0 ∧ cap0 = 0 ∧ z0 = []) ∨ ∃ x, a0 = some x ∧ len0 ≤ cap0 ∧ cap0 ≤ maxLen ∧ z0.length = cap0 ∧ (∀ i, i < z0.length → w.cell? (x.add i) = some (.int .i64 (z0.getD i 0))) ∧ ∀ n ∈ z0, (Lit.int .i64 n).wf = true) (y0 : len0 * 8 ≤ 140737488351232)
    (_ha : (Lit.int .i64 more).wf = true) :
    Calls Try.prog 4 #[.slice a0 len0 cap0, .int .i64 more] w fun e w' => e = .returned (.bool true) ∧ Below w.heap.size w w' := by
  obtain ⟨l, rfl, hr, hm, _, _⟩ := ReadsInt.ofRowC w0
  have key : ∀ x : Int, wrap64 ((IntKind.u64.wrap x).tmod 1073741824) = x % 1073741824 := fun x => by
    have h1 : 0 ≤ x % 18446744073709551616 := by omega
    rw [u64w, Int.tmod_eq_emod_of_nonneg h1, w64 (by omega) (by omega)]
    omega
  exact first a0 cap0 l more (more % 1073741824) w ⟨key more⟩ (by omega) (by omega) ⟨Kd.C_of_reads (d := (0 : Int)) (h1 := fun _ => rfl) hr⟩ (by omega) ⟨key⟩
end Go.Proofs.Ytpbjfiahlfoidaa.HandAdds
