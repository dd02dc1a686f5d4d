/- A timer fires at its very cycle: the walk of the law. -/
import Derived.Test.YtpbjfiahlfoidaaPClockFiresx2
import Derived.Test.YtpbjfiahlfoidaaAid
namespace Go.Proofs.Ytpbjfiahlfoidaa.HandFires
open Go.RowKit Go.Proofs.Ytpbjfiahlfoidaa.PClockFires Go.Proofs.YtpbjfiahlfoidaaW.PrintWords Go.Proofs.YtpbjfiahlfoidaaW.PrintLast Go.Proofs.YtpbjfiahlfoidaaW.PrintMore Go.Proofs.Ytpbjfiahlfoidaa.Aid

theorem adv {now n T : Int} (h0 : 0 ≤ now) (h1 : now ≤ 1000000) (n0 : 0 ≤ n) (n1 : n < 100) : clock_Clock_Advance.f now true T n = some (0, now + n, true, T) := by
  unfold clock_Clock_Advance.f
  rw [if_neg (by omega), w64 (x := 281474976710656 - now) (by omega) (by omega), if_neg (by omega), w64 (by omega) (by omega)]
set_option maxHeartbeats 800000 in
set_option maxRecDepth 100000 in
theorem first (at0 T : Int) (A : Option Addr) (c : Nat) (l : List Int) (w : World) (hT : Aside0 (wrap64 ((IntKind.u64.wrap at0).tmod 1000) = T)) (T0 : 0 ≤ T) (T1 : T < 1000)
    (hr : Aside0 (Kd.C (Kd.int .i64) w A l.length l)) (hlen : l.length ≤ 140737488351232)
    (hn : Aside0 (∀ x : Int, wrap64 ((IntKind.u64.wrap x).tmod 100) = x % 18446744073709551616 % 100)) :
    Calls Try.prog 3 #[.int .i64 at0, .slice A l.length c] w fun e w' => e = .returned (.bool true) ∧ Below w.heap.size w w' := by
  go_enter Try.func3, Try.ntmps3
  go_wp2_with fail
  refine (clock_New.calls 0 false 0 w w (Below.refl _ _) rfl).mono ?_
  rintro e w1 ⟨g, rfl, hI, hB, -⟩
  have HI := Aside0.mk hI
  have HB := Aside0.mk hB
  clear hI hB
  go_wp2_with fail
  rw [hT.out]
  refine (clock_Clock_Arm.calls g 0 false 0 T 0 0 true T w _ HI.out HB.out (by unfold clock_Clock_Arm.f; rw [if_neg (by omega), if_neg (by omega)])).mono ?_
  rintro e w2 ⟨rfl, hI, hB, -⟩
  have HI2 := Aside0.mk hI
  have HB2 := Aside0.mk hB
  clear hI hB HI HB
  go_wp2_with fail
  go_loopw [6, 7] (fun v u wr => ∃ (now : Int) (i : Nat), v = .int .i64 now ∧ u = .int .i64 i ∧ i ≤ l.length ∧ i ≤ 200 ∧ 0 ≤ now ∧ now ≤ (i : Int) * 100 ∧ Aside0 (IsS44 w wr g now true T) ∧ Aside0 (Below w.heap.size w wr)) (fun _ u _ => l.length - (intOf u).toNat)
  case atStart => exact ⟨0, 0, rfl, rfl, by omega, by omega, by omega, by omega, HI2, HB2⟩
  case round =>
    obtain ⟨now, i, rfl, rfl, hi, hi2, n0, n1, HI, HB⟩ := hrel
    clear HI2 HB2
    by_cases hlt : i < l.length ∧ i < 200
    · obtain ⟨h1, h2⟩ := hlt
      obtain ⟨ad, hA, hx⟩ := Kd.at_int hr.out (i : Int) (by omega) (by omega)
      rw [Int.toNat_natCast] at hx
      have HX := Aside0.mk hx
      subst hA
      clear hx
      go_wp2_with fail
      refine (clock_Clock_Now.calls g now true T _ _ _ _ w _ HI.out HB.out rfl).mono ?_
      rintro e w3 ⟨rfl, hI, hB, -⟩
      have HI3 := Aside0.mk hI
      have HB3 := Aside0.mk hB
      clear hI hB HI HB
      go_wp2_with fail
      refine (clock_Clock_Fired.calls g now true T (decide (T ≤ now)) now true T w _ HI3.out HB3.out rfl).mono ?_
      rintro e w4 ⟨rfl, hI, hB, -⟩
      have HI4 := Aside0.mk hI
      have HB4 := Aside0.mk hB
      have hx4 := (hB.cell (World.block_lt_of_cell? w _ HX.out)).trans HX.out
      clear hI hB HI3 HB3
      go_wp2_with fail
      rw [hn.out]
      refine (clock_Clock_Advance.calls g now true T _ 0 _ true T w _ HI4.out HB4.out (adv n0 (by omega) (by omega) (by omega))).mono ?_
      rintro e w5 ⟨rfl, hI, hB, -⟩
      have HI5 := Aside0.mk hI
      have HB5 := Aside0.mk hB
      clear hI hB HI4 HB4 hx4
      go_wp2_with fail
      go_roundw
      case rel => exact ⟨_, i + 1, rfl, by go_num, by omega, by omega, by omega, by omega, HI5, HB5⟩
      case measure =>
        simp [intOf]
        omega
    · go_wp2_with fail
      all_goals
        refine (clock_Clock_Due.calls g now true T T true now true T w _ HI.out HB.out rfl).mono ?_
        rintro e w3 ⟨rfl, hI, hB, -⟩
        have HI3 := Aside0.mk hI
        have HB3 := Aside0.mk hB
        clear hI hB
        go_wp2_with fail
        refine (clock_Clock_Now.calls g now true T _ _ _ _ w _ HI3.out HB3.out rfl).mono ?_
        rintro e w4 ⟨rfl, hI, hB, -⟩
        have HI4 := Aside0.mk hI
        have HB4 := Aside0.mk hB
        clear hI hB
        go_wp2_with fail
        refine (clock_Clock_Fired.calls g now true T (decide (T ≤ now)) now true T w _ HI4.out HB4.out rfl).mono ?_
        rintro e w5 ⟨rfl, hI, hB, -⟩
        have HB5 := Aside0.mk hB
        clear hI hB
        go_wp2_with fail
        go_ret
        exact ⟨rfl, by repeat (first | exact HB5.out | apply pw_below_drewN | apply below_drew)⟩
theorem walk (at0 : Int) (a1 : Option Addr) (len1 cap1 : Nat) (z1 : List Int) (w : World) (_ha : (Lit.int .i64 at0).wf = true)
    (w1 : (a1 = none ∧ len1 = 0 ∧ cap1 = 0 ∧ z1 = []) ∨ ∃ x, a1 = some x ∧ len1 ≤ cap1 ∧ cap1 ≤ maxLen ∧ z1.length = cap1 ∧ (∀ i, i < z1.length → w.cell? (x.add i) = some (.int .i64 (z1.getD i 0))) ∧ ∀ n ∈ z1, (Lit.int .i64 n).wf = true) (y1 : len1 * 8 ≤ 140737488351232) :
    Calls Try.prog 3 #[.int .i64 at0, .slice a1 len1 cap1] w fun e w' => e = .returned (.bool true) ∧ Below w.heap.size w w' := by
  obtain ⟨l, rfl, hr, hm, _, _⟩ := ReadsInt.ofRowC w1
  have key : ∀ (x m : Int), 0 < m → m ≤ 1000 → wrap64 ((IntKind.u64.wrap x).tmod m) = x % 18446744073709551616 % m := fun x m m0 m1 => by
    have h1 : 0 ≤ x % 18446744073709551616 := by omega
    have h2 := Int.emod_nonneg (x % 18446744073709551616) (show m ≠ 0 by omega)
    have h3 := Int.emod_lt_of_pos (x % 18446744073709551616) m0
    rw [u64w, Int.tmod_eq_emod_of_nonneg h1, w64 (by omega) (by omega)]
  exact first at0 (at0 % 18446744073709551616 % 1000) a1 cap1 l w ⟨key at0 1000 (by omega) (by omega)⟩ (by omega) (by omega) ⟨Kd.C_of_reads (d := (0 : Int)) (h1 := fun _ => rfl) hr⟩ (by omega)
    ⟨fun x => key x 100 (by omega) (by omega)⟩
end Go.Proofs.Ytpbjfiahlfoidaa.HandFires
