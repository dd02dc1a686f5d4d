/- Whatever is raised, acknowledged, masked and cloned: the walk of the law. -/
import Derived.Test.YtoedliifhbpdnaaPlaysAny
namespace Go.Proofs.Ytoedliifhbpdnaa.LawPlays
open Go.RowKit Go.Proofs.Ytoedliifhbpdnaa.PPicPlays Go.Proofs.YtoedliifhbpdnaaW.PrintWords Go.Proofs.YtoedliifhbpdnaaW.PrintLast Go.Proofs.YtoedliifhbpdnaaW.PrintMore Go.Proofs.Ytoedliifhbpdnaa.Aid Go.Proofs.Ytoedliifhbpdnaa.AidRows Go.Proofs.Ytoedliifhbpdnaa.PicRef Go.Proofs.Ytoedliifhbpdnaa.PicRef2 Go.Proofs.Ytoedliifhbpdnaa.PicAlike Go.Proofs.Ytoedliifhbpdnaa.PlaysAny
set_option linter.unusedVariables false
set_option linter.unusedSimpArgs false
set_option maxRecDepth 100000
set_option maxHeartbeats 3200000
theorem first (lines : Int) (A : Option Addr) (n c : Nat) (X : Nat → Nat → Int) (w : World) (hr : Aside0 (Recs w A n [.i64, .i64, .u32] X)) (hlen : n ≤ 140737488351232) :
    Calls Try.prog 5 #[.int .i64 lines, .slice A n c] w fun e w' => e = .returned (.bool true) ∧ Below w.heap.size w w' := by
  by_cases hl : 1 ≤ lines ∧ lines ≤ 32
  · obtain ⟨L, rfl⟩ := Int.eq_ofNat_of_zero_le (show 0 ≤ lines by omega)
    have hL : L ≤ 32 := by omega
    have hL1 : 1 ≤ L := by omega
    clear hl
    go_enter Try.func5, Try.ntmps5
    go_wp2_with fail
    refine (new_ok L _ (by omega) (by omega)).mono ?_
    rintro e w1 ⟨gp, rfl, hI, hB⟩
    have HI := Aside0.mk hI
    have HB := Aside0.mk hB
    clear hI hB
    go_wp2_with fail
    refine (rnew_ok L _ hL1 hL).mono ?_
    rintro e w2 ⟨g, o, f, rfl, hJ, hB⟩
    have HI2 := Aside0.mk (belowS HI.out hB)
    have HJ2 := Aside0.mk (hJ.base HB.out.size)
    have HB2 := Aside0.mk (below_step HB.out hB)
    clear hJ hB HI HB
    by_cases hn : 2000 < n
    · have hn2 : decide (2000 < (n : Int)) = true := decide_eq_true (by omega)
      go_wp2_with fail
      go_ret
      exact ⟨rfl, HB2.out⟩
    · have hn2 : decide (2000 < (n : Int)) = false := decide_eq_false (by omega)
      go_wp2_with fail
      go_loopw [5, 9] (fun v u wr => ∃ (gp i R M : Nat), v = .pointer (some ⟨gp, 0, none⟩) ∧ u = .int .i64 i ∧ i ≤ n ∧ Aside0 (R < 2 ^ L) ∧ Aside0 (M < 2 ^ L) ∧ Aside0 (IsS48 w wr gp L R M) ∧ Aside0 (IsM w wr g o f L R.testBit M.testBit) ∧ Aside0 (Below w.heap.size w wr)) (fun _ u _ => n - (intOf u).toNat)
      case atStart =>
        have hp0 : 0 < 2 ^ L := Nat.pow_pos (by decide)
        exact ⟨gp, 0, 0, 0, rfl, rfl, by omega, ⟨hp0⟩, ⟨hp0⟩, HI2, ⟨HJ2.out.congr (fun i _ => by simp) (fun i _ => by simp)⟩, HB2⟩
      case round =>
        clear HI2 HJ2 HB2
        obtain ⟨gp, i, R, M, rfl, rfl, hi, HR, HM, HI, HJ, HB⟩ := hrel
        have N1 := Aside0.mk (show g ≠ gp from blk_ne HJ.out.1 HI.out.1 (by decide))
        have N2 := Aside0.mk (show o ≠ gp from blk_ne HJ.out.2.1 HI.out.1 (by decide))
        have N3 := Aside0.mk (show f ≠ gp from blk_ne HJ.out.2.2.1 HI.out.1 (by decide))
        by_cases h1 : i < n
        · obtain ⟨bl, off, hA, hx0, _⟩ := hr.out i 0 .i64 h1 rfl
          obtain ⟨bl', off', hA', hx1, _⟩ := hr.out i 1 .i64 h1 rfl
          obtain ⟨rfl, rfl⟩ : bl = bl' ∧ off = off' := by simpa using Option.some.inj (hA.symm.trans hA')
          clear hA'
          obtain ⟨bl', off', hA', hx2, hx2w⟩ := hr.out i 2 .u32 h1 rfl
          obtain ⟨rfl, rfl⟩ : bl = bl' ∧ off = off' := by simpa using Option.some.inj (hA.symm.trans hA')
          clear hA'
          have hbm := u32_bd hx2w
          have hk0 : wr.cell? ⟨bl, off + i * 3, none⟩ = some (.int .i64 (X i 0)) := (HB.out.cell (World.block_lt_of_cell? w _ hx0)).trans hx0
          have hcase : X i 0 = 0 ∨ X i 0 = 1 ∨ X i 0 = 2 ∨ ((X i 0 == 0) = false ∧ (X i 0 == 1) = false ∧ (X i 0 == 2) = false) := by
            simp only [beq_eq_false_iff_ne]
            omega
          have HX1 := Aside0.mk (show w.cell? ⟨bl, off + i * 3 + 1, none⟩ = some (.int .i64 (X i 1)) from hx1)
          have HX2 := Aside0.mk (show w.cell? ⟨bl, off + i * 3 + 2, none⟩ = some (.int .u32 (X i 2)) from hx2)
          clear hx0 hx1 hx2 hx2w
          subst hA
          obtain ⟨m, hm⟩ := Int.eq_ofNat_of_zero_le hbm.1
          rw [hm] at hbm HX2
          have hm32 : m < 4294967296 := by omega
          clear hbm hm
          generalize X i 0 = kd at *
          generalize X i 1 = x at *
          rcases hcase with rfl | rfl | rfl | ⟨k0, k1, k2⟩
          · go_wp2_with fail
            have Hs0 := Aside0.mk (below_drew1 HB.out)
            refine start_ (n := 15) (S := fun w' => Below w.heap.size w w') (ds := []) #[false, false, false, false, false, false, false, false, false, false, false, false, false, false, false] (by kernel_rfl) rfl rfl Hs0.out (fun hs => ?_)
            have Hs := Aside0.mk hs
            clear hs Hs0
            refine pure_ (i := 0) (N := some 71) (v := ?_) (a' := ?_) #[true, false, false, false, false, false, false, false, false, false, false, false, false, false, false] rfl rfl (by kernel_rfl) (fun _ _ _ h => h) (Or.inl ⟨by rfl, ?_⟩) ?_ ?_
            rotate_left
            · intro w'
              go_simp
              with_reducible rfl
            rotate_left
            · simp only [Act.put, List.setIfInBounds_toArray, List.set_cons_zero, List.set_cons_succ]
              rfl
            refine pure_ (i := 1) (N := some 72) (v := ?_) (a' := ?_) #[true, true, false, false, false, false, false, false, false, false, false, false, false, false, false] rfl rfl (by kernel_rfl) (fun _ _ _ h => h) (Or.inl ⟨by rfl, ?_⟩) ?_ ?_
            rotate_left
            · intro w'
              go_simp
              with_reducible rfl
            rotate_left
            · simp only [Act.put, List.setIfInBounds_toArray, List.set_cons_zero, List.set_cons_succ]
              rfl
            refine pure_ (i := 2) (N := some 73) (v := ?_) (a' := ?_) #[true, true, true, false, false, false, false, false, false, false, false, false, false, false, false] rfl rfl (by kernel_rfl) (fun _ _ _ h => h) (Or.inl ⟨by rfl, ?_⟩) ?_ ?_
            rotate_left
            · intro w'
              go_simp
              with_reducible rfl
            rotate_left
            · simp only [Act.put, List.setIfInBounds_toArray, List.set_cons_zero, List.set_cons_succ]
              rfl
            refine pure_ (i := 3) (N := some 74) (v := ?_) (a' := ?_) #[true, true, true, true, false, false, false, false, false, false, false, false, false, false, false] rfl rfl (by kernel_rfl) (fun _ _ _ h => h) (Or.inl ⟨by rfl, ?_⟩) ?_ ?_
            rotate_left
            · intro w'
              go_simp
              with_reducible rfl
            rotate_left
            · simp only [Act.put, List.setIfInBounds_toArray, List.set_cons_zero, List.set_cons_succ]
              rfl
            refine pure_ (i := 4) (N := some 75) (v := ?_) (a' := ?_) #[true, true, true, true, true, false, false, false, false, false, false, false, false, false, false] rfl rfl (by kernel_rfl) (fun _ _ _ h => h) (Or.inl ⟨by rfl, ?_⟩) ?_ ?_
            rotate_left
            · intro w'
              go_simp
              with_reducible rfl
            rotate_left
            · simp only [Act.put, List.setIfInBounds_toArray, List.set_cons_zero, List.set_cons_succ]
              rfl
            refine take_ (i := 5) (N := some 76) (v := .int .i64 x) #[true, true, true, true, true, true, false, false, false, false, false, false, false, false, false] rfl rfl (by kernel_rfl) (fun _ _ _ h => h) (Or.inl ⟨by rfl, ?_⟩) ?_ (a' := ?_) ?_ ?_
            · intro w' hS
              have hx : w'.cell? ⟨bl, off + i * 3 + 1, none⟩ = some (.int .i64 x) := (hS.cell (World.block_lt_of_cell? w _ HX1.out)).trans HX1.out
              go_simp
            · exact Hs.out
            rotate_left
            · simp only [Act.put, List.setIfInBounds_toArray, List.set_cons_zero, List.set_cons_succ]
              rfl
            refine pure_ (i := 7) (N := some 78) (v := ?_) (a' := ?_) #[true, true, true, true, true, true, false, true, false, false, false, false, false, false, false] rfl rfl (by kernel_rfl) (fun _ _ _ h => h) (Or.inl ⟨by rfl, ?_⟩) ?_ ?_
            rotate_left
            · intro w'
              go_simp
              with_reducible rfl
            rotate_left
            · simp only [Act.put, List.setIfInBounds_toArray, List.set_cons_zero, List.set_cons_succ]
              rfl
            refine pure_ (i := 8) (N := some 79) (v := ?_) (a' := ?_) #[true, true, true, true, true, true, false, true, true, false, false, false, false, false, false] rfl rfl (by kernel_rfl) (fun _ _ _ h => h) (Or.inl ⟨by rfl, ?_⟩) ?_ ?_
            rotate_left
            · intro w'
              go_simp
              with_reducible rfl
            rotate_left
            · simp only [Act.put, List.setIfInBounds_toArray, List.set_cons_zero, List.set_cons_succ]
              rfl
            refine pure_ (i := 9) (N := some 80) (v := ?_) (a' := ?_) #[true, true, true, true, true, true, false, true, true, true, false, false, false, false, false] rfl rfl (by kernel_rfl) (fun _ _ _ h => h) (Or.inl ⟨by rfl, ?_⟩) ?_ ?_
            rotate_left
            · intro w'
              go_simp
              with_reducible rfl
            rotate_left
            · simp only [Act.put, List.setIfInBounds_toArray, List.set_cons_zero, List.set_cons_succ]
              rfl
            refine pure_ (i := 10) (N := some 81) (v := ?_) (a' := ?_) #[true, true, true, true, true, true, false, true, true, true, true, false, false, false, false] rfl rfl (by kernel_rfl) (fun _ _ _ h => h) (Or.inl ⟨by rfl, ?_⟩) ?_ ?_
            rotate_left
            · intro w'
              go_simp
              with_reducible rfl
            rotate_left
            · simp only [Act.put, List.setIfInBounds_toArray, List.set_cons_zero, List.set_cons_succ]
              rfl
            refine pure_ (i := 11) (N := some 82) (v := ?_) (a' := ?_) #[true, true, true, true, true, true, false, true, true, true, true, true, false, false, false] rfl rfl (by kernel_rfl) (fun _ _ _ h => h) (Or.inl ⟨by rfl, ?_⟩) ?_ ?_
            rotate_left
            · intro w'
              go_simp
              with_reducible rfl
            rotate_left
            · simp only [Act.put, List.setIfInBounds_toArray, List.set_cons_zero, List.set_cons_succ]
              rfl
            refine take_ (i := 12) (N := some 83) (v := .int .i64 x) #[true, true, true, true, true, true, false, true, true, true, true, true, true, false, false] rfl rfl (by kernel_rfl) (fun _ _ _ h => h) (Or.inl ⟨by rfl, ?_⟩) ?_ (a' := ?_) ?_ ?_
            · intro w' hS
              have hx : w'.cell? ⟨bl, off + i * 3 + 1, none⟩ = some (.int .i64 x) := (hS.cell (World.block_lt_of_cell? w _ HX1.out)).trans HX1.out
              go_simp
            · exact Hs.out
            rotate_left
            · simp only [Act.put, List.setIfInBounds_toArray, List.set_cons_zero, List.set_cons_succ]
              rfl
            refine one_ (i := 6) (N := some 77) #[true, true, true, true, true, true, true, true, true, true, true, true, true, false, false] rfl rfl (by kernel_rfl) (by decide) (fun K hK => ?_)
            refine call_ 10 _ (by rfl) rfl (by go_simp; rfl) ?_
            refine (raise_any gp L R M x w _ (IsS48.drew HI.out) Hs.out hL HR.out).mono ?_
            rintro e wn ⟨rfl, hI, hB, hk⟩
            have HI3 := Aside0.mk hI
            have HJ3 := Aside0.mk (IsM.keep (W := wr) HJ.out hk N1.out N2.out N3.out)
            refine ⟨_, rfl, ?_⟩
            refine hK.out _ _ hB (fun hs => ?_)
            clear hI hk HI HJ hB
            clear hK K Hs
            have Hs := Aside0.mk hs
            clear hs
            refine norm_ (a' := ?_) ?_ ?_
            rotate_left
            · show Act.put _ (some 77) _ = _
              simp only [Act.put, List.setIfInBounds_toArray, List.set_cons_zero, List.set_cons_succ]
              rfl
            refine one_ (i := 13) (N := some 84) #[true, true, true, true, true, true, true, true, true, true, true, true, true, true, false] rfl rfl (by kernel_rfl) (by decide) (fun K hK => ?_)
            refine call_ 16 _ (by rfl) rfl (by go_simp; rfl) ?_
            refine (rraise_any g o f L R M x w _ HJ3.out Hs.out hL).mono ?_
            rintro e wm ⟨rfl, hJ, hB, hk⟩
            have HI4 := Aside0.mk (keepS HI3.out hk (Ne.symm N2.out))
            have HJ4 := Aside0.mk hJ
            refine ⟨_, rfl, ?_⟩
            refine hK.out _ _ hB (fun hs => ?_)
            clear hJ hk HI3 HJ3 hB
            clear hK K Hs
            have Hs := Aside0.mk hs
            clear hs
            refine norm_ (a' := ?_) ?_ ?_
            rotate_left
            · show Act.put _ (some 84) _ = _
              simp only [Act.put, List.setIfInBounds_toArray, List.set_cons_zero, List.set_cons_succ]
              rfl
            refine pure_ (i := 14) (N := some 85) (v := ?_) (a' := ?_) #[true, true, true, true, true, true, true, true, true, true, true, true, true, true, true] rfl rfl (by kernel_rfl) (fun _ _ _ h => h) (Or.inl ⟨by rfl, ?_⟩) ?_ ?_
            rotate_left
            · intro w'
              go_simp
              with_reducible rfl
            rotate_left
            · simp only [Act.put, List.setIfInBounds_toArray, List.set_cons_zero, List.set_cons_succ]
              rfl
            refine done_ (by kernel_rfl) ?_
            go_wp2_with fail
            refine (alike_calls gp g o f L (raiseR L R x) M w _ HI4.out HJ4.out Hs.out hL (raise_lt HR.out) HM.out).mono ?_
            rintro e w5 ⟨rfl, hI, hJ, hB⟩
            have HI5 := Aside0.mk hI
            have HJ5 := Aside0.mk hJ
            have HB5 := Aside0.mk hB
            have HR5 := Aside0.mk (raise_lt (x := x) HR.out)
            clear hI hJ hB HI4 HJ4 Hs
            go_wp2_with fail
            go_roundw
            case rel => exact ⟨gp, i + 1, raiseR L R x, M, rfl, by go_num, by omega, HR5, HM, HI5, HJ5, HB5⟩
            case measure =>
              simp [intOf]
              omega
          · go_wp2_with fail
            have Hs0 := Aside0.mk (below_drew1 HB.out)
            refine start_ (n := 15) (S := fun w' => Below w.heap.size w w') (ds := []) #[false, false, false, false, false, false, false, false, false, false, false, false, false, false, false] (by kernel_rfl) rfl rfl Hs0.out (fun hs => ?_)
            have Hs := Aside0.mk hs
            clear hs Hs0
            refine pure_ (i := 0) (N := some 88) (v := ?_) (a' := ?_) #[true, false, false, false, false, false, false, false, false, false, false, false, false, false, false] rfl rfl (by kernel_rfl) (fun _ _ _ h => h) (Or.inl ⟨by rfl, ?_⟩) ?_ ?_
            rotate_left
            · intro w'
              go_simp
              with_reducible rfl
            rotate_left
            · simp only [Act.put, List.setIfInBounds_toArray, List.set_cons_zero, List.set_cons_succ]
              rfl
            refine pure_ (i := 1) (N := some 89) (v := ?_) (a' := ?_) #[true, true, false, false, false, false, false, false, false, false, false, false, false, false, false] rfl rfl (by kernel_rfl) (fun _ _ _ h => h) (Or.inl ⟨by rfl, ?_⟩) ?_ ?_
            rotate_left
            · intro w'
              go_simp
              with_reducible rfl
            rotate_left
            · simp only [Act.put, List.setIfInBounds_toArray, List.set_cons_zero, List.set_cons_succ]
              rfl
            refine pure_ (i := 2) (N := some 90) (v := ?_) (a' := ?_) #[true, true, true, false, false, false, false, false, false, false, false, false, false, false, false] rfl rfl (by kernel_rfl) (fun _ _ _ h => h) (Or.inl ⟨by rfl, ?_⟩) ?_ ?_
            rotate_left
            · intro w'
              go_simp
              with_reducible rfl
            rotate_left
            · simp only [Act.put, List.setIfInBounds_toArray, List.set_cons_zero, List.set_cons_succ]
              rfl
            refine pure_ (i := 3) (N := some 91) (v := ?_) (a' := ?_) #[true, true, true, true, false, false, false, false, false, false, false, false, false, false, false] rfl rfl (by kernel_rfl) (fun _ _ _ h => h) (Or.inl ⟨by rfl, ?_⟩) ?_ ?_
            rotate_left
            · intro w'
              go_simp
              with_reducible rfl
            rotate_left
            · simp only [Act.put, List.setIfInBounds_toArray, List.set_cons_zero, List.set_cons_succ]
              rfl
            refine pure_ (i := 4) (N := some 92) (v := ?_) (a' := ?_) #[true, true, true, true, true, false, false, false, false, false, false, false, false, false, false] rfl rfl (by kernel_rfl) (fun _ _ _ h => h) (Or.inl ⟨by rfl, ?_⟩) ?_ ?_
            rotate_left
            · intro w'
              go_simp
              with_reducible rfl
            rotate_left
            · simp only [Act.put, List.setIfInBounds_toArray, List.set_cons_zero, List.set_cons_succ]
              rfl
            refine take_ (i := 5) (N := some 93) (v := .int .i64 x) #[true, true, true, true, true, true, false, false, false, false, false, false, false, false, false] rfl rfl (by kernel_rfl) (fun _ _ _ h => h) (Or.inl ⟨by rfl, ?_⟩) ?_ (a' := ?_) ?_ ?_
            · intro w' hS
              have hx : w'.cell? ⟨bl, off + i * 3 + 1, none⟩ = some (.int .i64 x) := (hS.cell (World.block_lt_of_cell? w _ HX1.out)).trans HX1.out
              go_simp
            · exact Hs.out
            rotate_left
            · simp only [Act.put, List.setIfInBounds_toArray, List.set_cons_zero, List.set_cons_succ]
              rfl
            refine pure_ (i := 7) (N := some 95) (v := ?_) (a' := ?_) #[true, true, true, true, true, true, false, true, false, false, false, false, false, false, false] rfl rfl (by kernel_rfl) (fun _ _ _ h => h) (Or.inl ⟨by rfl, ?_⟩) ?_ ?_
            rotate_left
            · intro w'
              go_simp
              with_reducible rfl
            rotate_left
            · simp only [Act.put, List.setIfInBounds_toArray, List.set_cons_zero, List.set_cons_succ]
              rfl
            refine pure_ (i := 8) (N := some 96) (v := ?_) (a' := ?_) #[true, true, true, true, true, true, false, true, true, false, false, false, false, false, false] rfl rfl (by kernel_rfl) (fun _ _ _ h => h) (Or.inl ⟨by rfl, ?_⟩) ?_ ?_
            rotate_left
            · intro w'
              go_simp
              with_reducible rfl
            rotate_left
            · simp only [Act.put, List.setIfInBounds_toArray, List.set_cons_zero, List.set_cons_succ]
              rfl
            refine pure_ (i := 9) (N := some 97) (v := ?_) (a' := ?_) #[true, true, true, true, true, true, false, true, true, true, false, false, false, false, false] rfl rfl (by kernel_rfl) (fun _ _ _ h => h) (Or.inl ⟨by rfl, ?_⟩) ?_ ?_
            rotate_left
            · intro w'
              go_simp
              with_reducible rfl
            rotate_left
            · simp only [Act.put, List.setIfInBounds_toArray, List.set_cons_zero, List.set_cons_succ]
              rfl
            refine pure_ (i := 10) (N := some 98) (v := ?_) (a' := ?_) #[true, true, true, true, true, true, false, true, true, true, true, false, false, false, false] rfl rfl (by kernel_rfl) (fun _ _ _ h => h) (Or.inl ⟨by rfl, ?_⟩) ?_ ?_
            rotate_left
            · intro w'
              go_simp
              with_reducible rfl
            rotate_left
            · simp only [Act.put, List.setIfInBounds_toArray, List.set_cons_zero, List.set_cons_succ]
              rfl
            refine pure_ (i := 11) (N := some 99) (v := ?_) (a' := ?_) #[true, true, true, true, true, true, false, true, true, true, true, true, false, false, false] rfl rfl (by kernel_rfl) (fun _ _ _ h => h) (Or.inl ⟨by rfl, ?_⟩) ?_ ?_
            rotate_left
            · intro w'
              go_simp
              with_reducible rfl
            rotate_left
            · simp only [Act.put, List.setIfInBounds_toArray, List.set_cons_zero, List.set_cons_succ]
              rfl
            refine take_ (i := 12) (N := some 100) (v := .int .i64 x) #[true, true, true, true, true, true, false, true, true, true, true, true, true, false, false] rfl rfl (by kernel_rfl) (fun _ _ _ h => h) (Or.inl ⟨by rfl, ?_⟩) ?_ (a' := ?_) ?_ ?_
            · intro w' hS
              have hx : w'.cell? ⟨bl, off + i * 3 + 1, none⟩ = some (.int .i64 x) := (hS.cell (World.block_lt_of_cell? w _ HX1.out)).trans HX1.out
              go_simp
            · exact Hs.out
            rotate_left
            · simp only [Act.put, List.setIfInBounds_toArray, List.set_cons_zero, List.set_cons_succ]
              rfl
            refine one_ (i := 6) (N := some 94) #[true, true, true, true, true, true, true, true, true, true, true, true, true, false, false] rfl rfl (by kernel_rfl) (by decide) (fun K hK => ?_)
            refine call_ 13 _ (by rfl) rfl (by go_simp; rfl) ?_
            refine (ack_any gp L R M x w _ (IsS48.drew HI.out) Hs.out hL HR.out).mono ?_
            rintro e wn ⟨rfl, hI, hB, hk⟩
            have HI3 := Aside0.mk hI
            have HJ3 := Aside0.mk (IsM.keep (W := wr) HJ.out hk N1.out N2.out N3.out)
            refine ⟨_, rfl, ?_⟩
            refine hK.out _ _ hB (fun hs => ?_)
            clear hI hk HI HJ hB
            clear hK K Hs
            have Hs := Aside0.mk hs
            clear hs
            refine norm_ (a' := ?_) ?_ ?_
            rotate_left
            · show Act.put _ (some 94) _ = _
              simp only [Act.put, List.setIfInBounds_toArray, List.set_cons_zero, List.set_cons_succ]
              rfl
            refine one_ (i := 13) (N := some 101) #[true, true, true, true, true, true, true, true, true, true, true, true, true, true, false] rfl rfl (by kernel_rfl) (by decide) (fun K hK => ?_)
            refine call_ 17 _ (by rfl) rfl (by go_simp; rfl) ?_
            refine (rack_any g o f L R M x w _ HJ3.out Hs.out hL (Nat.lt_of_lt_of_le HR.out (pow32 hL))).mono ?_
            rintro e wm ⟨rfl, hJ, hB, hk⟩
            have HI4 := Aside0.mk (keepS HI3.out hk (Ne.symm N2.out))
            have HJ4 := Aside0.mk hJ
            refine ⟨_, rfl, ?_⟩
            refine hK.out _ _ hB (fun hs => ?_)
            clear hJ hk HI3 HJ3 hB
            clear hK K Hs
            have Hs := Aside0.mk hs
            clear hs
            refine norm_ (a' := ?_) ?_ ?_
            rotate_left
            · show Act.put _ (some 101) _ = _
              simp only [Act.put, List.setIfInBounds_toArray, List.set_cons_zero, List.set_cons_succ]
              rfl
            refine pure_ (i := 14) (N := some 102) (v := ?_) (a' := ?_) #[true, true, true, true, true, true, true, true, true, true, true, true, true, true, true] rfl rfl (by kernel_rfl) (fun _ _ _ h => h) (Or.inl ⟨by rfl, ?_⟩) ?_ ?_
            rotate_left
            · intro w'
              go_simp
              with_reducible rfl
            rotate_left
            · simp only [Act.put, List.setIfInBounds_toArray, List.set_cons_zero, List.set_cons_succ]
              rfl
            refine done_ (by kernel_rfl) ?_
            go_wp2_with fail
            refine (alike_calls gp g o f L (ackR L R x) M w _ HI4.out HJ4.out Hs.out hL (ack_lt HR.out) HM.out).mono ?_
            rintro e w5 ⟨rfl, hI, hJ, hB⟩
            have HI5 := Aside0.mk hI
            have HJ5 := Aside0.mk hJ
            have HB5 := Aside0.mk hB
            have HR5 := Aside0.mk (ack_lt (x := x) HR.out)
            clear hI hJ hB HI4 HJ4 Hs
            go_wp2_with fail
            go_roundw
            case rel => exact ⟨gp, i + 1, ackR L R x, M, rfl, by go_num, by omega, HR5, HM, HI5, HJ5, HB5⟩
            case measure =>
              simp [intOf]
              omega
          · have hk2 : wr.cell? ⟨bl, off + i * 3 + 2, none⟩ = some (.int .u32 m) := (HB.out.cell (World.block_lt_of_cell? w _ HX2.out)).trans HX2.out
            go_wp2_with fail
            refine (pic_Pic_Mask.calls gp L R M m L R ((m % 2 ^ L : Nat) : Int) w _ HI.out HB.out (mask_f hL hm32)).mono ?_
            rintro e w3 ⟨rfl, hI, hB, hk⟩
            have HI3 := Aside0.mk hI
            have HJ3 := Aside0.mk (HJ.out.keep hk N1.out N2.out N3.out)
            have HB3 := Aside0.mk hB
            have hk3 : w3.cell? ⟨bl, off + i * 3 + 2, none⟩ = some (.int .u32 m) := (HB3.out.cell (World.block_lt_of_cell? w _ HX2.out)).trans HX2.out
            clear hI hk hB HI HJ HB hk0 hk2
            go_wp2_with fail
            refine (rmask_calls g o f L m _ _ w _ HJ3.out HB3.out hL hm32).mono ?_
            rintro e w4 ⟨rfl, hJ, hB, hk⟩
            have HI4 := Aside0.mk (keepS HI3.out hk (Ne.symm N3.out))
            have HJ4 := Aside0.mk (hJ.congr (fun _ _ => rfl) (fun i hi => show m.testBit i = (m % 2 ^ L).testBit i by rw [mod_bit]; simp [hi]))
            have HB4 := Aside0.mk hB
            have HM4 := Aside0.mk (show m % 2 ^ L < 2 ^ L from Nat.mod_lt _ (Nat.pow_pos (by decide)))
            clear hJ hk hB HI3 HJ3 HB3 hk3
            go_wp2_with fail
            refine (alike_calls gp g o f L R (m % 2 ^ L) w _ HI4.out HJ4.out HB4.out hL HR.out HM4.out).mono ?_
            rintro e w5 ⟨rfl, hI, hJ, hB⟩
            have HI5 := Aside0.mk hI
            have HJ5 := Aside0.mk hJ
            have HB5 := Aside0.mk hB
            clear hI hJ hB HI4 HJ4 HB4
            go_wp2_with fail
            go_roundw
            case rel => exact ⟨gp, i + 1, R, m % 2 ^ L, rfl, by go_num, by omega, HR, HM4, HI5, HJ5, HB5⟩
            case measure =>
              simp [intOf]
              omega
          · have hk1 : wr.cell? ⟨bl, off + i * 3 + 1, none⟩ = some (.int .i64 x) := (HB.out.cell (World.block_lt_of_cell? w _ HX1.out)).trans HX1.out
            go_wp2_with fail
            refine (clone_calls gp L R M w _ HI.out).mono ?_
            rintro e w3 ⟨gc, rfl, hI, hB⟩
            have NC := Aside0.mk (neS HI.out hI)
            have NJ := Aside0.mk (show g ≠ gc ∧ o ≠ gc ∧ f ≠ gc from ⟨Nat.ne_of_lt (Nat.lt_of_lt_of_le (blk_lt HJ.out.1) hI.2), Nat.ne_of_lt (Nat.lt_of_lt_of_le (blk_lt HJ.out.2.1) hI.2), Nat.ne_of_lt (Nat.lt_of_lt_of_le (blk_lt HJ.out.2.2.1) hI.2)⟩)
            have HC3 := Aside0.mk (baseS hI HB.out.size)
            have HI3 := Aside0.mk (belowS HI.out hB)
            have HJ3 := Aside0.mk (HJ.out.below hB)
            have HB3 := Aside0.mk (below_step HB.out hB)
            have hk1 : w3.cell? ⟨bl, off + i * 3 + 1, none⟩ = some (.int .i64 x) := (HB3.out.cell (World.block_lt_of_cell? w _ HX1.out)).trans HX1.out
            clear hI hB HI HJ HB hk0
            go_wp2_with fail
            refine (raise_any gp L R M x w _ HI3.out HB3.out hL HR.out).mono ?_
            rintro e w4 ⟨rfl, hI, hB, hk⟩
            have HC4 := Aside0.mk (keepS HC3.out hk (Ne.symm NC.out))
            have HI4 := Aside0.mk hI
            have HJ4 := Aside0.mk (HJ3.out.keep hk N1.out N2.out N3.out)
            have HB4 := Aside0.mk hB
            have hk2 : w4.cell? ⟨bl, off + i * 3 + 2, none⟩ = some (.int .u32 m) := (HB4.out.cell (World.block_lt_of_cell? w _ HX2.out)).trans HX2.out
            clear hI hB hk HC3 HI3 HJ3 HB3 hk1
            go_wp2_with fail
            refine (pic_Pic_Mask.calls gp L (raiseR L R x : Nat) M _ _ _ _ w _ HI4.out HB4.out (by unfold pic_Pic_Mask.f; rw [if_pos (by omega)])).mono ?_
            rintro e w5 ⟨rfl, hI, hB, hk⟩
            have HC5 := Aside0.mk (keepS HC4.out hk (Ne.symm NC.out))
            have HJ5 := Aside0.mk (HJ4.out.keep hk N1.out N2.out N3.out)
            have HB5 := Aside0.mk hB
            clear hI hB hk HC4 HI4 HJ4 HB4 hk2
            go_wp2_with fail
            refine (alike_calls gc g o f L R M w _ HC5.out HJ5.out HB5.out hL HR.out HM.out).mono ?_
            rintro e w6 ⟨rfl, hI, hJ, hB⟩
            have HI6 := Aside0.mk hI
            have HJ6 := Aside0.mk hJ
            have HB6 := Aside0.mk hB
            clear hI hJ hB HC5 HJ5 HB5
            go_wp2_with fail
            go_roundw
            case rel => exact ⟨gc, i + 1, R, M, rfl, by go_num, by omega, HR, HM, HI6, HJ6, HB6⟩
            case measure =>
              simp [intOf]
              omega
        · go_wp2_with fail
          refine (alike_calls gp g o f L R M w _ HI.out HJ.out HB.out hL HR.out HM.out).mono ?_
          rintro e w6 ⟨rfl, hI, hJ, hB⟩
          have HB6 := Aside0.mk hB
          clear hI hJ hB HI HJ HB
          go_wp2_with fail
          go_ret
          exact ⟨rfl, HB6.out⟩
  · go_enter Try.func5, Try.ntmps5
    go_wp2_with fail
    refine (new_no lines _ hl).mono ?_
    rintro e w1 ⟨rfl, rfl⟩
    go_wp2_with fail
    refine (rnew_no lines _ hl).mono ?_
    rintro e w1 ⟨rfl, rfl⟩
    go_wp2_with fail
    go_ret
    exact ⟨rfl, Below.refl _ _⟩
theorem walk (lines : Int) (a0 : Option Addr) (len0 cap0 : Nat) (X0 : Nat → Nat → Int) (w : World) (wl : (Lit.int .i64 lines).wf = true) (w0 : Recs w a0 len0 [.i64, .i64, .u32] X0) (y0 : len0 * 24 ≤ 140737488351232) :
    Calls Try.prog 5 #[.int .i64 lines, .slice a0 len0 cap0] w fun e w' => e = .returned (.bool true) ∧ Below w.heap.size w w' :=
  first lines a0 len0 cap0 X0 w ⟨w0⟩ (by omega)
end Go.Proofs.Ytoedliifhbpdnaa.LawPlays
