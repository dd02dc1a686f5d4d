/- A clock, act by act, tells what the chapter's tells: the walk of the law. -/
import Derived.Test.YtpbjfiahlfoidaaPClockPlaysx2
import Derived.Test.YtpbjfiahlfoidaaAid
import Derived.Test.YtpbjfiahlfoidaaAidRows
import Derived.Deep.QuietTactic
import Derived.BigQuiet
namespace Go.Proofs.Ytpbjfiahlfoidaa.HandPlays
open Go.RowKit Go.Proofs.Ytpbjfiahlfoidaa.PClockPlays Go.Proofs.YtpbjfiahlfoidaaW.PrintWords Go.Proofs.YtpbjfiahlfoidaaW.PrintLast Go.Proofs.YtpbjfiahlfoidaaW.PrintMore Go.Proofs.Ytpbjfiahlfoidaa.Aid Go.Proofs.Ytpbjfiahlfoidaa.AidRows

theorem keepS {w0 W W' : World} {g g' : Nat} {a : Int} {b : Bool} {c : Int} (h : IsS44 w0 W g a b c) (hk : KeepBut W W' g' none) (hne : g ≠ g') : IsS44 w0 W' g a b c := ⟨hk.blk h.1 hne (by simp), h.2⟩
theorem belowS {w0 W W' : World} {g : Nat} {a : Int} {b : Bool} {c : Int} (h : IsS44 w0 W g a b c) (hb : Below W.heap.size W W') : IsS44 w0 W' g a b c := ⟨(hb.block g (blk_lt h.1)).trans h.1, h.2⟩
theorem baseS {w0 w1 W : World} {g : Nat} {a : Int} {b : Bool} {c : Int} (h : IsS44 w1 W g a b c) (hs : w0.heap.size ≤ w1.heap.size) : IsS44 w0 W g a b c := ⟨h.1, Nat.le_trans hs h.2⟩
theorem neS {w0 W1 W : World} {g g' : Nat} {a a' : Int} {b b' : Bool} {c c' : Int} (h : IsS44 w0 W1 g a b c) (h' : IsS44 W1 W g' a' b' c') : g ≠ g' := by
  have h1 := blk_lt h.1
  have h2 := h'.2
  omega
set_option maxHeartbeats 800000 in
theorem clone_calls (g : Nat) (a : Int) (b : Bool) (c : Int) (w0 w : World) (hI : IsS44 w0 w g a b c) :
    Calls Try.prog 12 #[.pointer (some ⟨g, 0, none⟩)] w fun e w' => ∃ g' : Nat, e = .returned (.pointer (some ⟨g', 0, none⟩)) ∧ IsS44 w w' g' a b c ∧ Below w.heap.size w w' := by
  obtain ⟨HG, hg⟩ := hI
  have hc0 := cellS44_0 HG
  have hc1 := cellS44_1 HG
  have hc2 := cellS44_2 HG
  clear HG hg
  go_enter Try.func12, Try.ntmps12
  go_wp2
  go_ret
  refine ⟨_, rfl, ⟨?_, Nat.le_refl _⟩, (Below.refl _ _).alloc (Nat.le_refl _) _⟩
  exact heap_alloc_new w _
theorem keepR {w0 W W' : World} {g g' : Nat} {a c : Int} (h : IsS46 w0 W g a c) (hk : KeepBut W W' g' none) (hne : g ≠ g') : IsS46 w0 W' g a c := ⟨hk.blk h.1 hne (by simp), h.2⟩
theorem belowR {w0 W W' : World} {g : Nat} {a c : Int} (h : IsS46 w0 W g a c) (hb : Below W.heap.size W W') : IsS46 w0 W' g a c := ⟨(hb.block g (blk_lt h.1)).trans h.1, h.2⟩
/-- The program's clock tells what the chapter's does. -/
def Rel (now : Int) (b : Bool) (t T : Int) : Prop := 0 ≤ now ∧ now ≤ 281474976710656 ∧ ((b = true ∧ T = t ∧ 0 ≤ t) ∨ (b = false ∧ t = 0 ∧ T = -1))
section
variable (g : Nat) (a t : Int) (w : World)
set_option maxHeartbeats 800000 in
theorem now_same (hc : w.cell? ⟨g, 0, none⟩ = some (.int .i64 a)) : Calls Try.prog 8 #[.pointer (some ⟨g, 0, none⟩)] w fun e w' => e = .returned (.int .i64 a) ∧ w' = w := by
  go_enter Try.func8, Try.ntmps8
  go_wp2
  go_ret
  exact ⟨rfl, rfl⟩
set_option maxHeartbeats 800000 in
theorem fired_on (hc0 : w.cell? ⟨g, 0, none⟩ = some (.int .i64 a)) (hc1 : w.cell? ⟨g, 1, none⟩ = some (.bool true)) (hc2 : w.cell? ⟨g, 2, none⟩ = some (.int .i64 t)) :
    Calls Try.prog 9 #[.pointer (some ⟨g, 0, none⟩)] w fun e w' => e = .returned (.bool (decide (t ≤ a))) ∧ ∃ m, w' = w.drewN m := by
  go_enter Try.func9, Try.ntmps9
  go_wp2
  go_quiet (fail)
  go_wp2
  go_ret
  exact ⟨rfl, _, rfl⟩
set_option maxHeartbeats 800000 in
theorem fired_off (hc1 : w.cell? ⟨g, 1, none⟩ = some (.bool false)) : Calls Try.prog 9 #[.pointer (some ⟨g, 0, none⟩)] w fun e w' => e = .returned (.bool false) ∧ ∃ m, w' = w.drewN m := by
  go_enter Try.func9, Try.ntmps9
  go_wp2
  go_quiet (fail)
  go_wp2
  go_ret
  exact ⟨rfl, _, rfl⟩
set_option maxHeartbeats 800000 in
theorem rfired_on (hc0 : w.cell? ⟨g, 0, none⟩ = some (.int .i64 a)) (hc1 : w.cell? ⟨g, 1, none⟩ = some (.int .i64 t)) (ht : 0 ≤ t) :
    Calls Try.prog 20 #[.pointer (some ⟨g, 0, none⟩)] w fun e w' => e = .returned (.bool (decide (t ≤ a))) ∧ ∃ m, w' = w.drewN m := by
  go_enter Try.func20, Try.ntmps20
  go_wp2
  go_quiet (fail)
  go_wp2
  go_ret
  exact ⟨rfl, _, rfl⟩
set_option maxHeartbeats 800000 in
theorem rfired_off (hc1 : w.cell? ⟨g, 1, none⟩ = some (.int .i64 (-1))) : Calls Try.prog 20 #[.pointer (some ⟨g, 0, none⟩)] w fun e w' => e = .returned (.bool false) ∧ ∃ m, w' = w.drewN m := by
  go_enter Try.func20, Try.ntmps20
  go_wp2
  go_quiet (fail)
  go_wp2
  go_ret
  exact ⟨rfl, _, rfl⟩
end
theorem neR {w0 w1 W : World} {g h : Nat} {a c a' c' : Int} {b : Bool} (hI : IsS44 w0 W g a b c) (hJ : IsS46 w1 W h a' c') : g ≠ h := by
  intro e
  subst e
  have h1 := hI.1.symm.trans hJ.1
  simp at h1
set_option maxHeartbeats 800000 in
set_option maxRecDepth 100000 in
theorem same_on (g h : Nat) (a t : Int) (w0 w : World) (hI : IsS44 w0 w g a true t) (hJ : IsS46 w0 w h a t) (hB : Below w0.heap.size w0 w) (ht : 0 ≤ t) :
    Calls Try.prog 18 #[.pointer (some ⟨g, 0, none⟩), .pointer (some ⟨h, 0, none⟩)] w fun e w' => e = .returned (.bool true) ∧ IsS44 w0 w' g a true t ∧ IsS46 w0 w' h a t ∧ Below w0.heap.size w0 w' := by
  have HN := Aside0.mk (neR hI hJ)
  have HI := Aside0.mk hI
  have HJ := Aside0.mk hJ
  have HB := Aside0.mk hB
  clear hI hJ hB
  go_enter Try.func18, Try.ntmps18
  go_wp2_with fail
  refine (clock_Clock_Due.calls g a true t t true a true t w0 _ HI.out HB.out rfl).mono ?_
  rintro e w1 ⟨rfl, hI, hB, hK⟩
  have HI1 := Aside0.mk hI
  have HJ1 := Aside0.mk (keepR HJ.out hK (Ne.symm HN.out))
  have HB1 := Aside0.mk hB
  clear hI hB hK HI HJ HB
  go_wp2_with fail
  refine (bulkheadref05_Clock_Due.calls h a t t true a t w0 _ HJ1.out HB1.out (by unfold bulkheadref05_Clock_Due.f; rw [if_neg (by omega)])).mono ?_
  rintro e w2 ⟨rfl, hJ, hB, hK⟩
  have HI2 := Aside0.mk (keepS HI1.out hK HN.out)
  have HJ2 := Aside0.mk hJ
  have HB2 := Aside0.mk hB
  have c0 := cellS44_0 HI2.out.1
  have c1 := cellS44_1 HI2.out.1
  have c2 := cellS44_2 HI2.out.1
  have r0 := cellS46_0 hJ.1
  have r1 := cellS46_1 hJ.1
  clear hJ hB hK HI1 HJ1 HB1
  go_wp2_with fail
  go_quiet (first | (go_at_call 8; exact Calls.quiet_of_same (now_same g a _ (by rw [World.cell?_drewN]; exact c0))) | (go_at_call 9; exact Calls.quiet_of (fired_on g a t _ (by rw [World.cell?_drewN]; exact c0) (by rw [World.cell?_drewN]; exact c1) (by rw [World.cell?_drewN]; exact c2))) | (go_at_call 20; exact Calls.quiet_of (rfired_on h a t _ (by rw [World.cell?_drewN]; exact r0) (by rw [World.cell?_drewN]; exact r1) ht)))
  go_wp2_with fail
  go_ret
  exact ⟨rfl, IsS44.drewN HI2.out _, IsS46.drewN HJ2.out _, pw_below_drewN HB2.out _⟩
set_option maxHeartbeats 800000 in
set_option maxRecDepth 100000 in
theorem same_off (g h : Nat) (a : Int) (w0 w : World) (hI : IsS44 w0 w g a false 0) (hJ : IsS46 w0 w h a (-1)) (hB : Below w0.heap.size w0 w) :
    Calls Try.prog 18 #[.pointer (some ⟨g, 0, none⟩), .pointer (some ⟨h, 0, none⟩)] w fun e w' => e = .returned (.bool true) ∧ IsS44 w0 w' g a false 0 ∧ IsS46 w0 w' h a (-1) ∧ Below w0.heap.size w0 w' := by
  have HN := Aside0.mk (neR hI hJ)
  have HI := Aside0.mk hI
  have HJ := Aside0.mk hJ
  have HB := Aside0.mk hB
  clear hI hJ hB
  go_enter Try.func18, Try.ntmps18
  go_wp2_with fail
  refine (clock_Clock_Due.calls g a false 0 0 false a false 0 w0 _ HI.out HB.out rfl).mono ?_
  rintro e w1 ⟨rfl, hI, hB, hK⟩
  have HI1 := Aside0.mk hI
  have HJ1 := Aside0.mk (keepR HJ.out hK (Ne.symm HN.out))
  have HB1 := Aside0.mk hB
  clear hI hB hK HI HJ HB
  go_wp2_with fail
  refine (bulkheadref05_Clock_Due.calls h a (-1) 0 false a (-1) w0 _ HJ1.out HB1.out (by unfold bulkheadref05_Clock_Due.f; rw [if_pos (by omega)])).mono ?_
  rintro e w2 ⟨rfl, hJ, hB, hK⟩
  have HI2 := Aside0.mk (keepS HI1.out hK HN.out)
  have HJ2 := Aside0.mk hJ
  have HB2 := Aside0.mk hB
  have c0 := cellS44_0 HI2.out.1
  have c1 := cellS44_1 HI2.out.1
  have c2 := cellS44_2 HI2.out.1
  have r0 := cellS46_0 hJ.1
  have r1 := cellS46_1 hJ.1
  clear hJ hB hK HI1 HJ1 HB1
  go_wp2_with fail
  go_quiet (first | (go_at_call 8; exact Calls.quiet_of_same (now_same g a _ (by rw [World.cell?_drewN]; exact c0))) | (go_at_call 9; exact Calls.quiet_of (fired_off g _ (by rw [World.cell?_drewN]; exact c1))) | (go_at_call 20; exact Calls.quiet_of (rfired_off h _ (by rw [World.cell?_drewN]; exact r1))))
  go_wp2_with fail
  go_ret
  exact ⟨rfl, IsS44.drewN HI2.out _, IsS46.drewN HJ2.out _, pw_below_drewN HB2.out _⟩
theorem same_rel (g h : Nat) (a t T : Int) (b : Bool) (w0 w : World) (hR : Rel a b t T) (hI : IsS44 w0 w g a b t) (hJ : IsS46 w0 w h a T) (hB : Below w0.heap.size w0 w) :
    Calls Try.prog 18 #[.pointer (some ⟨g, 0, none⟩), .pointer (some ⟨h, 0, none⟩)] w fun e w' => e = .returned (.bool true) ∧ IsS44 w0 w' g a b t ∧ IsS46 w0 w' h a T ∧ Below w0.heap.size w0 w' := by
  obtain ⟨_, _, ⟨rfl, rfl, h⟩ | ⟨rfl, rfl, rfl⟩⟩ := hR
  · exact same_on g _ a T w0 w hI hJ hB h
  · exact same_off g _ a w0 w hI hJ hB
theorem adv {s n t : Int} {b : Bool} (h0 : 0 ≤ s) (h1 : s ≤ 281474976710656) (n0 : 0 ≤ n) (n1 : n ≤ 281474976710656 - s) : clock_Clock_Advance.f s b t n = some (0, s + n, b, t) := by
  unfold clock_Clock_Advance.f
  rw [if_neg (by omega), w64 (x := 281474976710656 - s) (by omega) (by omega), if_neg (by omega), w64 (by omega) (by omega)]
theorem adv_no {s n t : Int} {b : Bool} (h0 : 0 ≤ s) (h1 : s ≤ 281474976710656) (n1 : ¬ (0 ≤ n ∧ n ≤ 281474976710656 - s)) : clock_Clock_Advance.f s b t n = some (2, s, b, t) := by
  unfold clock_Clock_Advance.f
  rw [w64 (x := 281474976710656 - s) (by omega) (by omega)]
  by_cases hn : n < 0
  · rw [if_pos hn]
  · rw [if_neg hn, if_pos (by omega)]
theorem adv_any {s n t : Int} {b : Bool} (h0 : 0 ≤ s) (h1 : s ≤ 281474976710656) : ∃ r s', clock_Clock_Advance.f s b t n = some (r, s', b, t) := by
  by_cases h : 0 ≤ n ∧ n ≤ 281474976710656 - s
  · exact ⟨_, _, adv h0 h1 h.1 h.2⟩
  · exact ⟨_, _, adv_no h0 h1 h⟩
theorem radv {s n t : Int} (h0 : 0 ≤ s) (h1 : s ≤ 281474976710656) (n0 : 0 ≤ n) (n1 : n ≤ 281474976710656 - s) : bulkheadref05_Clock_Advance.f s t n = some (0, s + n, t) := by
  unfold bulkheadref05_Clock_Advance.f
  rw [if_neg (by omega), w64 (x := 281474976710656 - s) (by omega) (by omega), if_neg (by omega), w64 (by omega) (by omega)]
theorem radv_no {s n t : Int} (h0 : 0 ≤ s) (h1 : s ≤ 281474976710656) (n1 : ¬ (0 ≤ n ∧ n ≤ 281474976710656 - s)) : bulkheadref05_Clock_Advance.f s t n = some (2, s, t) := by
  unfold bulkheadref05_Clock_Advance.f
  rw [w64 (x := 281474976710656 - s) (by omega) (by omega)]
  by_cases hn : n < 0
  · rw [if_pos hn]
  · rw [if_neg hn, if_pos (by omega)]
theorem arm {s n t : Int} {b : Bool} (n0 : 0 ≤ n ∧ n ≤ 281474976710656) : clock_Clock_Arm.f s b t n = some (0, s, true, n) := by
  unfold clock_Clock_Arm.f
  rw [if_neg (by omega), if_neg (by omega)]
theorem arm_no {s n t : Int} {b : Bool} (n0 : ¬ (0 ≤ n ∧ n ≤ 281474976710656)) : clock_Clock_Arm.f s b t n = some (2, s, b, t) := by
  unfold clock_Clock_Arm.f
  by_cases hn : n < 0
  · rw [if_pos hn]
  · rw [if_neg hn, if_pos (by omega)]
theorem rarm {s n t : Int} (n0 : 0 ≤ n ∧ n ≤ 281474976710656) : bulkheadref05_Clock_Arm.f s t n = some (0, s, n) := by
  unfold bulkheadref05_Clock_Arm.f
  rw [if_neg (by omega), if_neg (by omega)]
theorem rarm_no {s n t : Int} (n0 : ¬ (0 ≤ n ∧ n ≤ 281474976710656)) : bulkheadref05_Clock_Arm.f s t n = some (2, s, t) := by
  unfold bulkheadref05_Clock_Arm.f
  by_cases hn : n < 0
  · rw [if_pos hn]
  · rw [if_neg hn, if_pos (by omega)]
set_option maxHeartbeats 6400000 in
set_option maxRecDepth 100000 in
theorem first (A : Option Addr) (n c : Nat) (X : Nat → Nat → Int) (w : World) (hr : Aside0 (Recs w A n [.i64, .i64] X)) (hlen : n ≤ 140737488351232) :
    Calls Try.prog 5 #[.slice A n c] w fun e w' => e = .returned (.bool true) ∧ Below w.heap.size w w' := by
  go_enter Try.func5, Try.ntmps5
  go_wp2_with fail
  refine (clock_New.calls 0 false 0 w w (Below.refl _ _) rfl).mono ?_
  rintro e w1 ⟨g, rfl, hI, hB, -⟩
  have HI := Aside0.mk hI
  have HB := Aside0.mk hB
  clear hI hB
  go_wp2_with fail
  refine (bulkheadref05_New.calls 0 (-1) w w1 HB.out rfl).mono ?_
  rintro e w2 ⟨h, rfl, hJ, hB, hb⟩
  have HI2 := Aside0.mk (belowS HI.out hb)
  have HJ2 := Aside0.mk hJ
  have HB2 := Aside0.mk hB
  clear hJ hB hb HI HB
  go_wp2_with fail
  go_loopw [3, 5] (fun v u wr => ∃ (g : Nat) (i : Nat) (a t T : Int) (b : Bool), v = .pointer (some ⟨g, 0, none⟩) ∧ u = .int .i64 i ∧ i ≤ n ∧ i ≤ 300 ∧ Aside0 (Rel a b t T) ∧ Aside0 (IsS44 w wr g a b t) ∧ Aside0 (IsS46 w wr h a T) ∧ Aside0 (Below w.heap.size w wr)) (fun _ u _ => n - (intOf u).toNat)
  case atStart => exact ⟨g, 0, 0, 0, -1, false, rfl, rfl, by omega, by omega, ⟨by omega, by omega, .inr ⟨rfl, rfl, rfl⟩⟩, HI2, HJ2, HB2⟩
  case round =>
    clear HI2 HJ2 HB2
    obtain ⟨g, i, a, t, T, b, rfl, rfl, hi, hi2, HR, HI, HJ, HB⟩ := hrel
    by_cases hlt : i < n ∧ i < 300
    · obtain ⟨h1, h2⟩ := hlt
      obtain ⟨bl, off, hA, hx0, _⟩ := hr.out i 0 .i64 h1 rfl
      obtain ⟨bl', off', hA', hx1, _⟩ := hr.out i 1 .i64 h1 rfl
      obtain ⟨rfl, rfl⟩ : bl = bl' ∧ off = off' := by simpa using Option.some.inj (hA.symm.trans hA')
      clear hA'
      have hk0 : wr.cell? ⟨bl, off + i * 2, none⟩ = some (.int .i64 (X i 0)) := (HB.out.cell (World.block_lt_of_cell? w _ hx0)).trans hx0
      have hk1 : wr.cell? ⟨bl, off + i * 2 + 1, none⟩ = some (.int .i64 (X i 1)) := (HB.out.cell (World.block_lt_of_cell? w _ hx1)).trans hx1
      clear hx0 hx1
      subst hA
      have hcase : X i 0 = 0 ∨ X i 0 = 1 ∨ X i 0 = 2 ∨ ((X i 0 == 0) = false ∧ (X i 0 == 1) = false ∧ (X i 0 == 2) = false) := by
        simp only [beq_eq_false_iff_ne]
        omega
      generalize X i 0 = kd at *
      generalize X i 1 = m at *
      have HN := Aside0.mk (neR HI.out HJ.out)
      have a0 := HR.out.1
      have a1 := HR.out.2.1
      rcases hcase with rfl | rfl | rfl | ⟨k0, k1, k2⟩
      · by_cases hok : 0 ≤ m ∧ m ≤ 281474976710656 - a
        · obtain ⟨m0, m1⟩ := hok
          go_wp2_with fail
          refine (clock_Clock_Advance.calls g a b t m 0 (a + m) b t w _ HI.out HB.out (adv a0 a1 m0 m1)).mono ?_
          rintro e w3 ⟨rfl, hI, hB, hK⟩
          have HI3 := Aside0.mk hI
          have HJ3 := Aside0.mk (keepR HJ.out hK (Ne.symm HN.out))
          have HB3 := Aside0.mk hB
          clear hI hB hK HI HJ HB
          go_wp2_with fail
          refine (bulkheadref05_Clock_Advance.calls h a T m 0 (a + m) T w _ HJ3.out HB3.out (radv a0 a1 m0 m1)).mono ?_
          rintro e w4 ⟨rfl, hJ, hB, hK⟩
          have HJ4 := Aside0.mk hJ
          have HI4 := Aside0.mk (keepS HI3.out hK HN.out)
          have HB4 := Aside0.mk hB
          clear hJ hB hK HI3 HJ3 HB3
          have HR2 : Aside0 (Rel (a + m) b t T) := ⟨⟨by omega, by omega, HR.out.2.2⟩⟩
          go_wp2_with fail
          refine (same_rel g h (a + m) t T b w _ HR2.out HI4.out HJ4.out HB4.out).mono ?_
          rintro e w5 ⟨rfl, hI, hJ, hB⟩
          have HI5 := Aside0.mk hI
          have HJ5 := Aside0.mk hJ
          have HB5 := Aside0.mk hB
          clear hI hJ hB HI4 HJ4 HB4
          go_wp2_with fail
          go_roundw
          case rel => exact ⟨g, i + 1, (a + m), t, T, b, rfl, by go_num, by omega, by omega, HR2, HI5, HJ5, HB5⟩
          case measure =>
            simp [intOf]
            omega
        · have Hok := Aside0.mk hok
          clear hok
          go_wp2_with fail
          refine (clock_Clock_Advance.calls g a b t m 2 a b t w _ HI.out HB.out (adv_no a0 a1 Hok.out)).mono ?_
          rintro e w3 ⟨rfl, hI, hB, hK⟩
          have HI3 := Aside0.mk hI
          have HJ3 := Aside0.mk (keepR HJ.out hK (Ne.symm HN.out))
          have HB3 := Aside0.mk hB
          clear hI hB hK HI HJ HB
          go_wp2_with fail
          refine (bulkheadref05_Clock_Advance.calls h a T m 2 a T w _ HJ3.out HB3.out (radv_no a0 a1 Hok.out)).mono ?_
          rintro e w4 ⟨rfl, hJ, hB, hK⟩
          have HJ4 := Aside0.mk hJ
          have HI4 := Aside0.mk (keepS HI3.out hK HN.out)
          have HB4 := Aside0.mk hB
          clear hJ hB hK HI3 HJ3 HB3
          have HR2 : Aside0 (Rel a b t T) := ⟨HR.out⟩
          go_wp2_with fail
          refine (same_rel g h a t T b w _ HR2.out HI4.out HJ4.out HB4.out).mono ?_
          rintro e w5 ⟨rfl, hI, hJ, hB⟩
          have HI5 := Aside0.mk hI
          have HJ5 := Aside0.mk hJ
          have HB5 := Aside0.mk hB
          clear hI hJ hB HI4 HJ4 HB4
          go_wp2_with fail
          go_roundw
          case rel => exact ⟨g, i + 1, a, t, T, b, rfl, by go_num, by omega, by omega, HR2, HI5, HJ5, HB5⟩
          case measure =>
            simp [intOf]
            omega
      · by_cases hok : 0 ≤ m ∧ m ≤ 281474976710656
        · have Hok := Aside0.mk hok
          clear hok
          go_wp2_with fail
          refine (clock_Clock_Arm.calls g a b t m 0 a true m w _ HI.out HB.out (arm Hok.out)).mono ?_
          rintro e w3 ⟨rfl, hI, hB, hK⟩
          have HI3 := Aside0.mk hI
          have HJ3 := Aside0.mk (keepR HJ.out hK (Ne.symm HN.out))
          have HB3 := Aside0.mk hB
          clear hI hB hK HI HJ HB
          go_wp2_with fail
          refine (bulkheadref05_Clock_Arm.calls h a T m 0 a m w _ HJ3.out HB3.out (rarm Hok.out)).mono ?_
          rintro e w4 ⟨rfl, hJ, hB, hK⟩
          have HJ4 := Aside0.mk hJ
          have HI4 := Aside0.mk (keepS HI3.out hK HN.out)
          have HB4 := Aside0.mk hB
          clear hJ hB hK HI3 HJ3 HB3
          have HR2 : Aside0 (Rel a true m m) := ⟨⟨a0, a1, .inl ⟨rfl, rfl, Hok.out.1⟩⟩⟩
          go_wp2_with fail
          refine (same_rel g h a m m true w _ HR2.out HI4.out HJ4.out HB4.out).mono ?_
          rintro e w5 ⟨rfl, hI, hJ, hB⟩
          have HI5 := Aside0.mk hI
          have HJ5 := Aside0.mk hJ
          have HB5 := Aside0.mk hB
          clear hI hJ hB HI4 HJ4 HB4
          go_wp2_with fail
          go_roundw
          case rel => exact ⟨g, i + 1, a, m, m, true, rfl, by go_num, by omega, by omega, HR2, HI5, HJ5, HB5⟩
          case measure =>
            simp [intOf]
            omega
        · have Hok := Aside0.mk hok
          clear hok
          go_wp2_with fail
          refine (clock_Clock_Arm.calls g a b t m 2 a b t w _ HI.out HB.out (arm_no Hok.out)).mono ?_
          rintro e w3 ⟨rfl, hI, hB, hK⟩
          have HI3 := Aside0.mk hI
          have HJ3 := Aside0.mk (keepR HJ.out hK (Ne.symm HN.out))
          have HB3 := Aside0.mk hB
          clear hI hB hK HI HJ HB
          go_wp2_with fail
          refine (bulkheadref05_Clock_Arm.calls h a T m 2 a T w _ HJ3.out HB3.out (rarm_no Hok.out)).mono ?_
          rintro e w4 ⟨rfl, hJ, hB, hK⟩
          have HJ4 := Aside0.mk hJ
          have HI4 := Aside0.mk (keepS HI3.out hK HN.out)
          have HB4 := Aside0.mk hB
          clear hJ hB hK HI3 HJ3 HB3
          have HR2 : Aside0 (Rel a b t T) := ⟨HR.out⟩
          go_wp2_with fail
          refine (same_rel g h a t T b w _ HR2.out HI4.out HJ4.out HB4.out).mono ?_
          rintro e w5 ⟨rfl, hI, hJ, hB⟩
          have HI5 := Aside0.mk hI
          have HJ5 := Aside0.mk hJ
          have HB5 := Aside0.mk hB
          clear hI hJ hB HI4 HJ4 HB4
          go_wp2_with fail
          go_roundw
          case rel => exact ⟨g, i + 1, a, t, T, b, rfl, by go_num, by omega, by omega, HR2, HI5, HJ5, HB5⟩
          case measure =>
            simp [intOf]
            omega
      · skip
        go_wp2_with fail
        refine (clock_Clock_Disarm.calls g a b t a false 0 w _ HI.out HB.out rfl).mono ?_
        rintro e w3 ⟨rfl, hI, hB, hK⟩
        have HI3 := Aside0.mk hI
        have HJ3 := Aside0.mk (keepR HJ.out hK (Ne.symm HN.out))
        have HB3 := Aside0.mk hB
        clear hI hB hK HI HJ HB
        go_wp2_with fail
        refine (bulkheadref05_Clock_Disarm.calls h a T a (-1) w _ HJ3.out HB3.out rfl).mono ?_
        rintro e w4 ⟨rfl, hJ, hB, hK⟩
        have HJ4 := Aside0.mk hJ
        have HI4 := Aside0.mk (keepS HI3.out hK HN.out)
        have HB4 := Aside0.mk hB
        clear hJ hB hK HI3 HJ3 HB3
        have HR2 : Aside0 (Rel a false 0 (-1)) := ⟨⟨a0, a1, .inr ⟨rfl, rfl, rfl⟩⟩⟩
        go_wp2_with fail
        refine (same_rel g h a 0 (-1) false w _ HR2.out HI4.out HJ4.out HB4.out).mono ?_
        rintro e w5 ⟨rfl, hI, hJ, hB⟩
        have HI5 := Aside0.mk hI
        have HJ5 := Aside0.mk hJ
        have HB5 := Aside0.mk hB
        clear hI hJ hB HI4 HJ4 HB4
        go_wp2_with fail
        go_roundw
        case rel => exact ⟨g, i + 1, a, 0, (-1), false, rfl, by go_num, by omega, by omega, HR2, HI5, HJ5, HB5⟩
        case measure =>
          simp [intOf]
          omega
      · go_wp2_with fail
        refine (clone_calls g a b t w _ HI.out).mono ?_
        rintro e w3 ⟨g2, rfl, hI, hB⟩
        have HG := Aside0.mk (neS HI.out hI)
        have HI3 := Aside0.mk (belowS HI.out hB)
        have HJ3 := Aside0.mk (belowR HJ.out hB)
        have HI2 := Aside0.mk (baseS hI HB.out.size)
        have HB3 := Aside0.mk (below_step HB.out hB)
        clear hI hB HI HJ HB
        go_wp2_with fail
        obtain ⟨r5, s5, h5⟩ := adv_any (n := 5) (t := t) (b := b) a0 a1
        have H5 := Aside0.mk h5
        clear h5
        refine (clock_Clock_Advance.calls g a b t 5 r5 s5 b t w _ HI3.out HB3.out H5.out).mono ?_
        rintro e w4 ⟨rfl, hI, hB, hK⟩
        have HI6 := Aside0.mk hI
        have HJ6 := Aside0.mk (keepR HJ3.out hK (Ne.symm HN.out))
        have HI7 := Aside0.mk (keepS HI2.out hK (Ne.symm HG.out))
        have HB6 := Aside0.mk hB
        clear hI hB hK HI3 HJ3 HI2 HB3
        go_wp2_with fail
        refine (clock_Clock_Arm.calls g s5 b t 1 0 s5 true 1 w _ HI6.out HB6.out (arm (by omega))).mono ?_
        rintro e w6 ⟨rfl, hI, hB, hK⟩
        have HJ4 := Aside0.mk (keepR HJ6.out hK (Ne.symm HN.out))
        have HI4 := Aside0.mk (keepS HI7.out hK (Ne.symm HG.out))
        have HB4 := Aside0.mk hB
        clear hI hB hK HI6 HJ6 HI7 HB6
        have HR2 : Aside0 (Rel a b t T) := ⟨HR.out⟩
        go_wp2_with fail
        refine (same_rel g2 h a t T b w _ HR2.out HI4.out HJ4.out HB4.out).mono ?_
        rintro e w5 ⟨rfl, hI, hJ, hB⟩
        have HI5 := Aside0.mk hI
        have HJ5 := Aside0.mk hJ
        have HB5 := Aside0.mk hB
        clear hI hJ hB HI4 HJ4 HB4
        go_wp2_with fail
        go_roundw
        case rel => exact ⟨g2, i + 1, a, t, T, b, rfl, by go_num, by omega, by omega, HR2, HI5, HJ5, HB5⟩
        case measure =>
          simp [intOf]
          omega
    · go_wp2_with fail
      all_goals
        refine (same_rel g h a t T b w _ HR.out HI.out HJ.out HB.out).mono ?_
        rintro e w5 ⟨rfl, hI, hJ, hB⟩
        have HB5 := Aside0.mk hB
        clear hI hJ hB
        go_wp2_with fail
        go_ret
        exact ⟨rfl, by repeat (first | exact HB5.out | apply pw_below_drewN | apply below_drew)⟩
theorem walk (a0 : Option Addr) (len0 cap0 : Nat) (X0 : Nat → Nat → Int) (w : World) (w0 : Recs w a0 len0 [.i64, .i64] X0) (y0 : len0 * 16 ≤ 140737488351232) :
    Calls Try.prog 5 #[.slice a0 len0 cap0] w fun e w' => e = .returned (.bool true) ∧ Below w.heap.size w w' :=
  first a0 len0 cap0 X0 w ⟨w0⟩ (by omega)
end Go.Proofs.Ytpbjfiahlfoidaa.HandPlays
