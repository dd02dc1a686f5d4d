/- The program's controller, and alike. -/
import Derived.Test.YtoedliifhbpdnaaPicRef2
import Derived.BigQuiet
namespace Go.Proofs.Ytoedliifhbpdnaa.PicAlike
open Go.RowKit Go.Proofs.Ytoedliifhbpdnaa.PPicPlays Go.Proofs.YtoedliifhbpdnaaW.PrintWords Go.Proofs.YtoedliifhbpdnaaW.PrintLast Go.Proofs.YtoedliifhbpdnaaW.PrintMore Go.Proofs.Ytoedliifhbpdnaa.Aid Go.Proofs.Ytoedliifhbpdnaa.PicRef Go.Proofs.Ytoedliifhbpdnaa.PicRef2
set_option linter.unusedVariables false
set_option linter.unusedSimpArgs false

theorem keepS {w0 W W' : World} {g g' : Nat} {a b c : Int} (h : IsS48 w0 W g a b c) (hk : KeepBut W W' g' none) (hne : g ≠ g') : IsS48 w0 W' g a b c := ⟨hk.blk h.1 hne (by simp), h.2⟩
theorem belowS {w0 W W' : World} {g : Nat} {a b c : Int} (h : IsS48 w0 W g a b c) (hb : Below W.heap.size W W') : IsS48 w0 W' g a b c := ⟨(hb.block g (blk_lt h.1)).trans h.1, h.2⟩
theorem baseS {w0 w1 W : World} {g : Nat} {a b c : Int} (h : IsS48 w1 W g a b c) (hs : w0.heap.size ≤ w1.heap.size) : IsS48 w0 W g a b c := ⟨h.1, Nat.le_trans hs h.2⟩
theorem neS {w0 W1 W : World} {g g' : Nat} {a a' b b' c c' : Int} (h : IsS48 w0 W1 g a b c) (h' : IsS48 W1 W g' a' b' c') : g ≠ g' := by
  have h1 := blk_lt h.1
  have h2 := h'.2
  omega
set_option maxHeartbeats 800000 in
theorem new_ok (n : Int) (w : World) (h0 : 1 ≤ n) (h1 : n ≤ 32) :
    Calls Try.prog 7 #[.int .i64 n] w fun e w' => ∃ g : Nat, e = .returned (.tuple #[.pointer (some ⟨g, 0, none⟩), .int .i64 0]) ∧ IsS48 w w' g n 0 0 ∧ Below w.heap.size w w' := by
  go_enter Try.func7, Try.ntmps7
  go_wp2
  go_ret2
  exact ⟨_, rfl, ⟨heap_alloc_new w _, Nat.le_refl _⟩, (Below.refl _ _).alloc (Nat.le_refl _) _⟩
set_option maxHeartbeats 800000 in
theorem raise_ok (g : Nat) (lines p m : Int) (n : Nat) (w0 w : World) (hI : IsS48 w0 w g lines p m) (hB : Below w0.heap.size w0 w) (h1 : (n : Int) < lines) (h2 : lines ≤ 32) :
    Calls Try.prog 10 #[.pointer (some ⟨g, 0, none⟩), .int .i64 n] w fun e w' => e = .returned (.int .i64 0) ∧ IsS48 w0 w' g lines (Go.bits .or .u32 p (2 ^ n % 4294967296)) m ∧ Below w0.heap.size w0 w' ∧ KeepBut w w' g none := by
  have HI := Aside0.mk hI
  have HB := Aside0.mk hB
  clear hI hB
  go_enter Try.func10, Try.ntmps10
  go_wp2_with fail
  refine (pic_Pic_has.calls g lines p m n true lines p m w0 _ HI.out HB.out (by unfold pic_Pic_has.f; rw [if_pos (by omega), decide_eq_true h1])).mono ?_
  rintro e w1 ⟨rfl, hI, hB, hK⟩
  have HK := Aside0.mk hK
  have HI2 := Aside0.mk hI
  have HB2 := Aside0.mk hB
  obtain ⟨HG, hg⟩ := hI
  have hc1 := cellS48_1 HG
  have hf1 := blk_frozen HG 1
  clear HI HB hK hB HG hg
  go_wp2_with fail
  go_region
  go_wp2
  go_ret
  exact ⟨rfl, by repeat (first | exact HI2.out | apply IsS48.alloc | apply IsS48.drewN | apply IsS48.drew | apply IsS48.set_0 | apply IsS48.set_1 | apply IsS48.set_2), by repeat (first | exact HB2.out | apply below_alloc | apply pw_below_drewN | apply below_drew1 | refine below_set ?_ (IsS48.ge HI2.out)), by repeat (first | exact HK.out | apply KeepBut.set_ | apply keep_drewN | apply keep_drew | apply keep_alloc)⟩
set_option maxHeartbeats 800000 in
theorem ack_ok (g : Nat) (lines p m : Int) (n : Nat) (w0 w : World) (hI : IsS48 w0 w g lines p m) (hB : Below w0.heap.size w0 w) (h1 : (n : Int) < lines) (h2 : lines ≤ 32) (h3 : (Go.bits .and .u32 (p / 2 ^ n) 1 == 0) = false) :
    Calls Try.prog 13 #[.pointer (some ⟨g, 0, none⟩), .int .i64 n] w fun e w' => e = .returned (.int .i64 0) ∧ IsS48 w0 w' g lines (Go.bits .andNot .u32 p (2 ^ n % 4294967296)) m ∧ Below w0.heap.size w0 w' ∧ KeepBut w w' g none := by
  have HI := Aside0.mk hI
  have HB := Aside0.mk hB
  clear hI hB
  go_enter Try.func13, Try.ntmps13
  go_wp2_with fail
  refine (pic_Pic_has.calls g lines p m n true lines p m w0 _ HI.out HB.out (by unfold pic_Pic_has.f; rw [if_pos (by omega), decide_eq_true h1])).mono ?_
  rintro e w1 ⟨rfl, hI, hB, hK⟩
  have HK := Aside0.mk hK
  have HI2 := Aside0.mk hI
  have HB2 := Aside0.mk hB
  obtain ⟨HG, hg⟩ := hI
  have hc1 := cellS48_1 HG
  have hf1 := blk_frozen HG 1
  clear HI HB hK hB HG hg
  go_wp2_with fail
  go_region
  go_wp2
  go_ret
  exact ⟨rfl, by repeat (first | exact HI2.out | apply IsS48.alloc | apply IsS48.drewN | apply IsS48.drew | apply IsS48.set_0 | apply IsS48.set_1 | apply IsS48.set_2), by repeat (first | exact HB2.out | apply below_alloc | apply pw_below_drewN | apply below_drew1 | refine below_set ?_ (IsS48.ge HI2.out)), by repeat (first | exact HK.out | apply KeepBut.set_ | apply keep_drewN | apply keep_drew | apply keep_alloc)⟩
set_option maxHeartbeats 800000 in
theorem ack_not (g : Nat) (lines p m : Int) (n : Nat) (w0 w : World) (hI : IsS48 w0 w g lines p m) (hB : Below w0.heap.size w0 w) (h1 : (n : Int) < lines) (h2 : lines ≤ 32) (h3 : (Go.bits .and .u32 (p / 2 ^ n) 1 == 0) = true) :
    Calls Try.prog 13 #[.pointer (some ⟨g, 0, none⟩), .int .i64 n] w fun e w' => e = .returned (.int .i64 8) ∧ IsS48 w0 w' g lines p m ∧ Below w0.heap.size w0 w' ∧ KeepBut w w' g none := by
  have HI := Aside0.mk hI
  have HB := Aside0.mk hB
  clear hI hB
  go_enter Try.func13, Try.ntmps13
  go_wp2_with fail
  refine (pic_Pic_has.calls g lines p m n true lines p m w0 _ HI.out HB.out (by unfold pic_Pic_has.f; rw [if_pos (by omega), decide_eq_true h1])).mono ?_
  rintro e w1 ⟨rfl, hI, hB, hK⟩
  have HK := Aside0.mk hK
  have HI2 := Aside0.mk hI
  have HB2 := Aside0.mk hB
  obtain ⟨HG, hg⟩ := hI
  have hc1 := cellS48_1 HG
  clear HI HB hK hB HG hg
  go_wp2_with fail
  go_ret
  exact ⟨rfl, by repeat (first | exact HI2.out | apply IsS48.alloc | apply IsS48.drewN | apply IsS48.drew | apply IsS48.set_0 | apply IsS48.set_1 | apply IsS48.set_2), by repeat (first | exact HB2.out | apply below_alloc | apply pw_below_drewN | apply below_drew1 | refine below_set ?_ (IsS48.ge HI2.out)), by repeat (first | exact HK.out | apply KeepBut.set_ | apply keep_drewN | apply keep_drew | apply keep_alloc)⟩
set_option maxHeartbeats 800000 in
theorem raise_no (g : Nat) (lines p m n : Int) (w0 w : World) (hI : IsS48 w0 w g lines p m) (hB : Below w0.heap.size w0 w) (hb : pic_Pic_has.f lines p m n = some (false, lines, p, m)) :
    Calls Try.prog 10 #[.pointer (some ⟨g, 0, none⟩), .int .i64 n] w fun e w' => e = .returned (.int .i64 2) ∧ IsS48 w0 w' g lines p m ∧ Below w0.heap.size w0 w' ∧ KeepBut w w' g none := by
  have HI := Aside0.mk hI
  have HB := Aside0.mk hB
  have HH := Aside0.mk hb
  clear hI hB hb
  go_enter Try.func10, Try.ntmps10
  go_wp2_with fail
  refine (pic_Pic_has.calls g lines p m n false lines p m w0 _ HI.out HB.out HH.out).mono ?_
  rintro e w1 ⟨rfl, hI, hB, hK⟩
  have HK := Aside0.mk hK
  have HI2 := Aside0.mk hI
  have HB2 := Aside0.mk hB
  clear HI HB hI hB hK
  go_wp2_with fail
  go_ret
  exact ⟨rfl, by repeat (first | exact HI2.out | apply IsS48.alloc | apply IsS48.drewN | apply IsS48.drew | apply IsS48.set_0 | apply IsS48.set_1 | apply IsS48.set_2), by repeat (first | exact HB2.out | apply below_alloc | apply pw_below_drewN | apply below_drew1 | refine below_set ?_ (IsS48.ge HI2.out)), by repeat (first | exact HK.out | apply KeepBut.set_ | apply keep_drewN | apply keep_drew | apply keep_alloc)⟩
set_option maxHeartbeats 800000 in
theorem pending_same (g : Nat) (p : Int) (w : World) (hc : w.cell? ⟨g, 1, none⟩ = some (.int .u32 p)) :
    Calls Try.prog 12 #[.pointer (some ⟨g, 0, none⟩)] w fun e w' => e = .returned (.int .u32 p) ∧ w' = w := by
  go_enter Try.func12, Try.ntmps12
  go_wp2
  go_ret
  exact ⟨rfl, rfl⟩
set_option maxHeartbeats 800000 in
theorem masked_same (g : Nat) (m : Int) (w : World) (hc : w.cell? ⟨g, 2, none⟩ = some (.int .u32 m)) :
    Calls Try.prog 14 #[.pointer (some ⟨g, 0, none⟩)] w fun e w' => e = .returned (.int .u32 m) ∧ w' = w := by
  go_enter Try.func14, Try.ntmps14
  go_wp2
  go_ret
  exact ⟨rfl, rfl⟩
set_option maxHeartbeats 800000 in
theorem ack_no (g : Nat) (lines p m n : Int) (w0 w : World) (hI : IsS48 w0 w g lines p m) (hB : Below w0.heap.size w0 w) (hb : pic_Pic_has.f lines p m n = some (false, lines, p, m)) :
    Calls Try.prog 13 #[.pointer (some ⟨g, 0, none⟩), .int .i64 n] w fun e w' => e = .returned (.int .i64 2) ∧ IsS48 w0 w' g lines p m ∧ Below w0.heap.size w0 w' ∧ KeepBut w w' g none := by
  have HI := Aside0.mk hI
  have HB := Aside0.mk hB
  have HH := Aside0.mk hb
  clear hI hB hb
  go_enter Try.func13, Try.ntmps13
  go_wp2_with fail
  refine (pic_Pic_has.calls g lines p m n false lines p m w0 _ HI.out HB.out HH.out).mono ?_
  rintro e w1 ⟨rfl, hI, hB, hK⟩
  have HK := Aside0.mk hK
  have HI2 := Aside0.mk hI
  have HB2 := Aside0.mk hB
  clear HI HB hI hB hK
  go_wp2_with fail
  go_ret
  exact ⟨rfl, HI2.out, HB2.out, HK.out⟩
set_option maxHeartbeats 800000 in
theorem new_no (n : Int) (w : World) (hn : ¬ (1 ≤ n ∧ n ≤ 32)) :
    Calls Try.prog 7 #[.int .i64 n] w fun e w' => e = .returned (.tuple #[.pointer none, .int .i64 2]) ∧ w' = w := by
  by_cases c : n < 1
  · go_enter Try.func7, Try.ntmps7
    go_wp2
    go_ret2
    exact ⟨rfl, rfl⟩
  · have c2 : 32 < n := by omega
    go_enter Try.func7, Try.ntmps7
    go_wp2
    go_ret2
    exact ⟨rfl, rfl⟩
set_option maxHeartbeats 800000 in
theorem lines_same (g : Nat) (n : Int) (w : World) (hc : w.cell? ⟨g, 0, none⟩ = some (.int .i64 n)) :
    Calls Try.prog 24 #[.pointer (some ⟨g, 0, none⟩)] w fun e w' => e = .returned (.int .i64 n) ∧ w' = w := by
  go_enter Try.func24, Try.ntmps24
  go_wp2
  go_ret
  exact ⟨rfl, rfl⟩
set_option maxHeartbeats 800000 in
theorem clone_calls (g : Nat) (a b c : Int) (w0 w : World) (hI : IsS48 w0 w g a b c) :
    Calls Try.prog 19 #[.pointer (some ⟨g, 0, none⟩)] w fun e w' => ∃ g' : Nat, e = .returned (.pointer (some ⟨g', 0, none⟩)) ∧ IsS48 w w' g' a b c ∧ Below w.heap.size w w' := by
  obtain ⟨HG, hg⟩ := hI
  have hc0 := cellS48_0 HG
  have hc1 := cellS48_1 HG
  have hc2 := cellS48_2 HG
  clear HG hg
  go_enter Try.func19, Try.ntmps19
  go_wp2
  go_ret
  refine ⟨_, rfl, ⟨?_, Nat.le_refl _⟩, (Below.refl _ _).alloc (Nat.le_refl _) _⟩
  exact heap_alloc_new w _
theorem NextIs.uniq {L : Nat} {h : Nat → Bool} {n n' : Int} {b b' : Bool} (x : NextIs L h n b) (y : NextIs L h n' b') : n = n' ∧ b = b' := by
  rcases x with ⟨rfl, m, rfl, hm, hh, hz⟩ | ⟨rfl, rfl, hz⟩ <;> rcases y with ⟨rfl, m', rfl, hm', hh', hz'⟩ | ⟨rfl, rfl, hz'⟩
  · refine ⟨?_, rfl⟩
    rcases Nat.lt_trichotomy m m' with c | c | c
    · rw [hz' m c] at hh
      cases hh
    · rw [c]
    · rw [hz m' c] at hh'
      cases hh'
  · rw [hz' m hm] at hh
    cases hh
  · rw [hz m' hm'] at hh'
    cases hh'
  · exact ⟨rfl, rfl⟩
theorem next_is {L R M : Nat} (hL : L ≤ 32) (hR : R < 2 ^ L) (hM : M < 4294967296) : ∃ n b, pic_Pic_Next.f 40 (L : Int) (R : Int) (M : Int) = some (n, b, (L : Int), (R : Int), (M : Int)) ∧ NextIs L (fun i => R.testBit i && !M.testBit i) n b := by
  have hp : 2 ^ L ≤ 4294967296 := Nat.pow_le_pow_right (n := 2) (by decide) hL
  have hd := fun i => dn_bit (R := R) (m := M) (by omega) hM i
  rcases next_f hL hR hM with ⟨hz, he⟩ | ⟨_, n, hn, hb, hz, he⟩
  · refine ⟨_, _, he, .inr ⟨rfl, rfl, fun j _ => ?_⟩⟩
    show (R.testBit j && !M.testBit j) = false
    rw [← hd j, hz, Nat.zero_testBit]
  · refine ⟨_, _, he, .inl ⟨rfl, n, rfl, hn, ?_, fun j hj => ?_⟩⟩
    · show (R.testBit n && !M.testBit n) = true
      rw [← hd n, hb]
    · show (R.testBit j && !M.testBit j) = false
      rw [← hd j, hz j hj]
set_option maxHeartbeats 1600000 in
set_option maxRecDepth 100000 in
theorem alike_calls (gp g o f L R M : Nat) (w0 w : World) (hI : IsS48 w0 w gp L R M) (hJ : IsM w0 w g o f L R.testBit M.testBit) (hB : Below w0.heap.size w0 w) (hL : L ≤ 32) (hR : R < 2 ^ L) (hM : M < 2 ^ L) :
    Calls Try.prog 20 #[.pointer (some ⟨gp, 0, none⟩), .pointer (some ⟨g, 0, none⟩)] w fun e w' => e = .returned (.bool true) ∧ IsS48 w0 w' gp L R M ∧ IsM w0 w' g o f L R.testBit M.testBit ∧ Below w0.heap.size w0 w' := by
  have hp : 2 ^ L ≤ 4294967296 := Nat.pow_le_pow_right (n := 2) (by decide) hL
  obtain ⟨n, b, he, hn⟩ := next_is hL hR (show M < 4294967296 by omega)
  have HE := Aside0.mk he
  have HN := Aside0.mk hn
  have HI := Aside0.mk hI
  have HJ := Aside0.mk hJ
  have HB := Aside0.mk hB
  have N1 := Aside0.mk (show g ≠ gp from blk_ne hJ.1 hI.1 (by decide))
  have N2 := Aside0.mk (show o ≠ gp from blk_ne hJ.2.1 hI.1 (by decide))
  have N3 := Aside0.mk (show f ≠ gp from blk_ne hJ.2.2.1 hI.1 (by decide))
  have HR := Aside0.mk hR
  have HM := Aside0.mk hM
  clear he hn hI hJ hB hp hR hM
  go_enter Try.func20, Try.ntmps20
  go_wp2_with fail
  refine (pic_Pic_Next.calls 40 gp L R M n b L R M w0 _ HI.out HB.out HE.out).mono ?_
  rintro e w1 ⟨rfl, hI, hB, hK⟩
  have HI1 := Aside0.mk hI
  have HJ1 := Aside0.mk (HJ.out.keep hK N1.out N2.out N3.out)
  have HB1 := Aside0.mk hB
  clear hI hB hK HI HJ HB
  go_wp2_with fail
  refine (rnext_calls g o f L R.testBit M.testBit w0 _ HJ1.out hL).mono ?_
  rintro e w2 ⟨n', b', rfl, hn', m2, hw2⟩
  obtain ⟨rfl, rfl⟩ := NextIs.uniq HN.out hn'
  have HI2 : Aside0 (IsS48 w0 w2 gp L R M) := ⟨by rw [hw2]; exact HI1.out⟩
  have HJ2 : Aside0 (IsM w0 w2 g o f L R.testBit M.testBit) := ⟨by rw [hw2]; exact HJ1.out⟩
  have HB2 : Aside0 (Below w0.heap.size w0 w2) := ⟨by rw [hw2]; exact pw_below_drewN HB1.out _⟩
  clear hn' HN HE hw2 HI1 HJ1 HB1
  have r0 := HJ2.out.c0
  go_wp2_with fail
  go_quiet (first | (go_at_call 24; exact Calls.quiet_of_same (lines_same gp _ _ (cellS48_0 HI2.out.1))) | (go_at_call 12; exact Calls.quiet_of_same (pending_same gp _ _ (cellS48_1 HI2.out.1))) | (go_at_call 14; exact Calls.quiet_of_same (masked_same gp _ _ (cellS48_2 HI2.out.1))) | (go_at_call 25; exact Calls.quiet_of (rpending_calls g o f L R R.testBit M.testBit w0 _ HJ2.out hL HR.out (fun _ _ => rfl))) | (go_at_call 26; exact Calls.quiet_of (rmasked_calls g o f L M R.testBit M.testBit w0 _ HJ2.out hL HM.out (fun _ _ => rfl))))
  go_wp2_with fail
  go_ret
  exact ⟨rfl, HI2.out, HJ2.out, pw_below_drewN HB2.out _⟩
end Go.Proofs.Ytoedliifhbpdnaa.PicAlike
