/- Every Put and Get; the bytes stay as they are, and are new memory: the walk of the law. -/
import Derived.Test.YthhhebdcccfgkaaWBytesPure
namespace Go.Proofs.Ythhhebdcccfgkaa.LawWB
open Go.RowKit Go.Proofs.Ythhhebdcccfgkaa.PWordBytes Go.Proofs.YthhhebdcccfgkaaW.PrintWords Go.Proofs.YthhhebdcccfgkaaW.PrintLast Go.Proofs.YthhhebdcccfgkaaW.PrintMore Go.Proofs.Ythhhebdcccfgkaa.Aid Go.Proofs.Ythhhebdcccfgkaa.Pure
set_option maxHeartbeats 1600000
set_option maxRecDepth 100000
set_option linter.unusedVariables false
theorem str_y {a : Act} {o : Oper} (x : Operand) (ho : o.op = .convert 26 9 x) (A : Option Addr) (n k : Nat) (hx : a.eval x = .slice A n k) {w : World} {l : List Int} (h : (Kd.int .u8).C w A n l) :
    (execOp a.eval o).run Try.prog w = .ok (.value (.string (strOfNums l))) w := by
  unfold execOp
  simp only [ho, hx, Sem.run_bind, Kd.C_string Try.underlying26 Try.underlying5 Try.underlying9 h, Result.andThen_ok, Sem.run_pure]
theorem lit_row (ok : Nat → Prop) (w0 W : World) (xs : List Int) (cs : Array Value) (hc : cs.toList = encs (Value.int .u8) xs) (hok : ok W.heap.size) (hb : w0.heap.size ≤ W.heap.size) (hm : xs.length ≤ 1000) :
    Kd.R (Kd.int .u8) 5 (W.alloc (.cells cs 5)) w0.heap.size ok (.slice (some ⟨W.heap.size, 0, none⟩) xs.length xs.length) xs := by
  refine Kd.R_of_own (enc := Value.int .u8) ?_ (fun k hk => ?_)
  · have hs : cs.size = xs.length * 1 := by
      rw [← Array.length_toList, hc]
      simp [encs]
    have h := World.ownsRow_lit (base := w0.heap.size) (e := 5) (size := 1) W cs xs.length hb (by unfold maxLen; omega) hs
    rw [hc] at h
    exact h
  · have : W.heap.size = k := by simpa [Value.ownBlock] using hk
    subst this
    exact hok
theorem law (n s : Int) (A : Option Addr) (cap : Nat) (l : List Int) (w : World) (h0 : 0 ≤ n) (h1 : n < 18446744073709551616) (s0 : -9223372036854775808 ≤ s) (s1 : s < 9223372036854775808) (HC : Aside0 ((Kd.int .u8).C w A l.length l)) (hc : l.length ≤ cap) (hcm : cap ≤ 9223372036854775807) (hl : Aside0 (∀ x ∈ l, 0 ≤ x ∧ x < 256)) (hn : l.length ≤ 140737488351232) :
    Calls Try.prog 4 #[.int .u64 n, .int .i64 s, .slice A l.length cap] w fun e w' => e = .returned (.bool true) ∧ Below w.heap.size w w' := by
  obtain ⟨m, hm, e1, e2⟩ := puts h0 h1 s0 s1 (k := 12) (by omega)
  have hb : (bs n m).length ≤ 8 := by rw [bs_length]; exact hm
  generalize bs n m = b at *
  have E1 := Aside0.mk e1
  have E2 := Aside0.mk e2
  obtain ⟨g1, g2⟩ := gets hl.out hn (k := 12) (by omega)
  generalize val (l.take 8) = v at *
  have G1 := Aside0.mk g1
  have G2 := Aside0.mk g2
  have hb8 := Aside0.mk hb
  clear e1 e2 g1 g2 hb hm m h0 h1 s0 s1
  have HE := Aside0.mk (lit_row (fun _ => True) w w [] #[] rfl trivial (Nat.le_refl _) (by simp))
  have HB0 := Aside0.mk (below_alloc (Below.refl w.heap.size w) (.cells #[] 5))
  go_enter Try.func4, Try.ntmps4
  go_wp2_with ((with_reducible refine gate_builtin (b := .append) (xs := #[.tmp 10, .tmp 11]) rfl ?_); refine Kd.R_append_row (Value.int .u8) (0 : Int) (w0 := w) w.heap.size rfl (.tmp 10) (.tmp 11) 26 5 (.int .u8 0) 1 rfl Try.underlying26 info5 rfl (by omega) _ [] l A l.length cap (fun _ => True) rfl rfl (fun _ _ => trivial) HE.out (Kd.C_below HC.out HB0.out) HB0.out HB0.out.size (by simp; omega) ?_; intro v1 w1 ho hb hgr _; have HO1 := Aside0.mk ho; have HB1 := Aside0.mk hb; clear ho hb hgr)
  have hown := Kd.own_of_R HO1.out
  obtain ⟨A1, c1, rfl⟩ := Kd.R_slice HO1.out
  obtain ⟨_, hc1, hC1⟩ := Kd.R_reads' HO1.out
  rw [List.nil_append] at hc1 hC1 hown
  have hcm1 : c1 ≤ 9223372036854775807 := by
    rcases hown.2 with ⟨he, _⟩ | ⟨g, cp, cur, he, _, _, _, hm, _⟩
    · injection he with _ _ h3
      omega
    · injection he with _ _ h3
      unfold maxLen at hm
      omega
  have HC1 := Aside0.mk hC1
  clear hown hC1 HO1 HE HB0
  rw [List.nil_append]
  refine (word_Put.calls 12 n s b _ E1.out).mono ?_
  rintro e w2 ⟨v2, rfl, hR, hB⟩
  have HO2 := Aside0.mk (Kd.R_lower hR (HB1.out.size))
  have C1 := Aside0.mk (Kd.C_below HC1.out hB)
  have HB2 := Aside0.mk (below_step HB1.out hB)
  have HC2 := Aside0.mk (Kd.C_below HC.out HB2.out)
  clear hR hB HC1 HB1
  obtain ⟨A2, k2, rfl⟩ := Kd.R_slice HO2.out
  obtain ⟨_, _, hC2⟩ := Kd.R_reads' HO2.out
  have C2 := Aside0.mk hC2
  clear hC2
  go_wp2_with fail
  have Hs0 := Aside0.mk (below_drew1 (Below.refl w2.heap.size w2))
  refine start_ (n := 21) (S := fun w' => Below w2.heap.size w2 w') (ds := []) #[false, false, false, false, false, false, false, false, false, false, false, false, false, false, false, false, false, false, false, false, false] (by kernel_rfl) rfl rfl Hs0.out (fun hs => ?_)
  have Hs := Aside0.mk hs
  clear hs Hs0
  refine pure_ (i := 0) (N := some 16) (v := ?_) (a' := ?_) #[true, false, false, false, false, false, false, false, false, false, false, false, false, false, false, false, false, false, false, false, false] rfl rfl (by kernel_rfl) (fun _ _ _ h => h) (Or.inl ⟨by rfl, ?_⟩) ?_ ?_
  rotate_left
  · intro w'
    go_simp
    with_reducible rfl
  rotate_left
  · simp only [Act.put, List.setIfInBounds_toArray, List.set_cons_zero, List.set_cons_succ]
    rfl
  refine take_ (i := 1) (N := some 17) (v := .string (strOfNums b)) #[true, true, false, false, false, false, false, false, false, false, false, false, false, false, false, false, false, false, false, false, false] rfl rfl (by kernel_rfl) (fun _ _ _ h => h) (Or.inl ⟨by rfl, ?_⟩) ?_ (a' := ?_) ?_ ?_
  · intro w' hS
    exact str_y _ rfl _ _ _ rfl (Kd.C_below C2.out hS)
  · exact Hs.out
  rotate_left
  · simp only [Act.put, List.setIfInBounds_toArray, List.set_cons_zero, List.set_cons_succ]
    rfl
  refine pure_ (i := 2) (N := some 18) (v := ?_) (a' := ?_) #[true, true, true, false, false, false, false, false, false, false, false, false, false, false, false, false, false, false, false, false, false] rfl rfl (by kernel_rfl) (fun _ _ _ h => h) (Or.inl ⟨by rfl, ?_⟩) ?_ ?_
  rotate_left
  · intro w'
    go_simp
    with_reducible rfl
  rotate_left
  · simp only [Act.put, List.setIfInBounds_toArray, List.set_cons_zero, List.set_cons_succ]
    rfl
  refine pure_ (i := 3) (N := some 19) (v := ?_) (a' := ?_) #[true, true, true, true, false, false, false, false, false, false, false, false, false, false, false, false, false, false, false, false, false] rfl rfl (by kernel_rfl) (fun _ _ _ h => h) (Or.inl ⟨by rfl, ?_⟩) ?_ ?_
  rotate_left
  · intro w'
    go_simp
    with_reducible rfl
  rotate_left
  · simp only [Act.put, List.setIfInBounds_toArray, List.set_cons_zero, List.set_cons_succ]
    rfl
  refine one_ (i := 4) (N := some 20) #[true, true, true, true, true, false, false, false, false, false, false, false, false, false, false, false, false, false, false, false, false] rfl rfl (by kernel_rfl) (by decide) (fun K hK => ?_)
  refine call_ 14 _ (by rfl) rfl (by go_simp; rfl) ?_
  refine (bulkheadref01_Put.calls 12 n s b _ E2.out).mono ?_
  rintro e wn ⟨v3, rfl, hR, hB⟩
  obtain ⟨A3, k3, rfl⟩ := Kd.R_slice hR
  obtain ⟨_, _, hC⟩ := Kd.R_reads' hR
  have C3 := Aside0.mk hC
  clear hC hR
  replace hB := hB.mono (Nat.le_refl _)
  refine ⟨_, rfl, ?_⟩
  refine hK.out _ _ (below_step Hs.out hB) (fun hs => ?_)
  clear hK K hB Hs
  have Hs := Aside0.mk hs
  clear hs
  refine norm_ (a' := ?_) ?_ ?_
  rotate_left
  · show Act.put _ (some 20) _ = _
    simp only [Act.put, List.setIfInBounds_toArray, List.set_cons_zero, List.set_cons_succ]
    rfl
  refine one_ (i := 5) (N := some 21) #[true, true, true, true, true, true, false, false, false, false, false, false, false, false, false, false, false, false, false, false, false] rfl rfl (by kernel_rfl) (by decide) (fun K hK => ?_)
  refine value_ (by rfl) rfl (str_y _ rfl _ _ _ rfl C3.out) ?_
  refine hK.out _ _ Hs.out (fun hs => ?_)
  clear hK K Hs
  have Hs := Aside0.mk hs
  clear hs
  refine norm_ (a' := ?_) ?_ ?_
  rotate_left
  · show Act.put _ (some 21) _ = _
    simp only [Act.put, List.setIfInBounds_toArray, List.set_cons_zero, List.set_cons_succ]
    rfl
  refine pure_ (i := 6) (N := some 22) (v := ?_) (a' := ?_) #[true, true, true, true, true, true, true, false, false, false, false, false, false, false, false, false, false, false, false, false, false] rfl rfl (by kernel_rfl) (fun _ _ _ h => h) (Or.inl ⟨by rfl, ?_⟩) ?_ ?_
  rotate_left
  · intro w'
    go_simp
    with_reducible rfl
  rotate_left
  · simp only [Act.put, List.setIfInBounds_toArray, List.set_cons_zero, List.set_cons_succ]
    rfl
  refine pure_ (i := 7) (N := some 23) (v := ?_) (a' := ?_) #[true, true, true, true, true, true, true, true, false, false, false, false, false, false, false, false, false, false, false, false, false] rfl rfl (by kernel_rfl) (fun _ _ _ h => h) (Or.inl ⟨by rfl, ?_⟩) ?_ ?_
  rotate_left
  · intro w'
    go_simp
    with_reducible rfl
  rotate_left
  · simp only [Act.put, List.setIfInBounds_toArray, List.set_cons_zero, List.set_cons_succ]
    rfl
  refine pure_ (i := 8) (N := some 24) (v := ?_) (a' := ?_) #[true, true, true, true, true, true, true, true, true, false, false, false, false, false, false, false, false, false, false, false, false] rfl rfl (by kernel_rfl) (fun _ _ _ h => h) (Or.inl ⟨by rfl, ?_⟩) ?_ ?_
  rotate_left
  · intro w'
    go_simp
    with_reducible rfl
  rotate_left
  · simp only [Act.put, List.setIfInBounds_toArray, List.set_cons_zero, List.set_cons_succ]
    rfl
  refine pure_ (i := 10) (N := some 26) (v := ?_) (a' := ?_) #[true, true, true, true, true, true, true, true, true, false, true, false, false, false, false, false, false, false, false, false, false] rfl rfl (by kernel_rfl) (fun _ _ _ h => h) (Or.inl ⟨by rfl, ?_⟩) ?_ ?_
  rotate_left
  · intro w'
    go_simp
    with_reducible rfl
  rotate_left
  · simp only [Act.put, List.setIfInBounds_toArray, List.set_cons_zero, List.set_cons_succ]
    rfl
  refine one_ (i := 9) (N := some 25) #[true, true, true, true, true, true, true, true, true, true, true, false, false, false, false, false, false, false, false, false, false] rfl rfl (by kernel_rfl) (by decide) (fun K hK => ?_)
  refine call_ 15 _ (by rfl) rfl (by go_simp; rfl) ?_
  refine (word_Get.calls 12 A1 c1 l v _ (Kd.C_below C1.out Hs.out) hc1 G1.out).mono ?_
  rintro e wn ⟨rfl, hB⟩
  refine ⟨_, rfl, ?_⟩
  refine hK.out _ _ (below_step Hs.out hB) (fun hs => ?_)
  clear hK K hB Hs
  have Hs := Aside0.mk hs
  clear hs
  refine norm_ (a' := ?_) ?_ ?_
  rotate_left
  · show Act.put _ (some 25) _ = _
    simp only [Act.put, List.setIfInBounds_toArray, List.set_cons_zero, List.set_cons_succ]
    rfl
  refine one_ (i := 11) (N := some 27) #[true, true, true, true, true, true, true, true, true, true, true, true, false, false, false, false, false, false, false, false, false] rfl rfl (by kernel_rfl) (by decide) (fun K hK => ?_)
  refine call_ 16 _ (by rfl) rfl (by go_simp; rfl) ?_
  refine (bulkheadref01_Get.calls 12 A cap l v _ (Kd.C_below HC2.out Hs.out) hc G2.out).mono ?_
  rintro e wn ⟨rfl, hB⟩
  refine ⟨_, rfl, ?_⟩
  refine hK.out _ _ (below_step Hs.out hB) (fun hs => ?_)
  clear hK K hB Hs
  have Hs := Aside0.mk hs
  clear hs
  refine norm_ (a' := ?_) ?_ ?_
  rotate_left
  · show Act.put _ (some 27) _ = _
    simp only [Act.put, List.setIfInBounds_toArray, List.set_cons_zero, List.set_cons_succ]
    rfl
  refine pure_ (i := 12) (N := some 28) (v := ?_) (a' := ?_) #[true, true, true, true, true, true, true, true, true, true, true, true, true, false, false, false, false, false, false, false, false] rfl rfl (by kernel_rfl) (fun _ _ _ h => h) (Or.inl ⟨by rfl, ?_⟩) ?_ ?_
  rotate_left
  · intro w'
    go_simp
    with_reducible rfl
  rotate_left
  · simp only [Act.put, List.setIfInBounds_toArray, List.set_cons_zero, List.set_cons_succ]
    rfl
  refine pure_ (i := 13) (N := some 29) (v := ?_) (a' := ?_) #[true, true, true, true, true, true, true, true, true, true, true, true, true, true, false, false, false, false, false, false, false] rfl rfl (by kernel_rfl) (fun _ _ _ h => h) (Or.inl ⟨by rfl, ?_⟩) ?_ ?_
  rotate_left
  · intro w'
    go_simp
    with_reducible rfl
  rotate_left
  · simp only [Act.put, List.setIfInBounds_toArray, List.set_cons_zero, List.set_cons_succ]
    rfl
  refine pure_ (i := 14) (N := some 30) (v := ?_) (a' := ?_) #[true, true, true, true, true, true, true, true, true, true, true, true, true, true, true, false, false, false, false, false, false] rfl rfl (by kernel_rfl) (fun _ _ _ h => h) (Or.inl ⟨by rfl, ?_⟩) ?_ ?_
  rotate_left
  · intro w'
    go_simp
    with_reducible rfl
  rotate_left
  · simp only [Act.put, List.setIfInBounds_toArray, List.set_cons_zero, List.set_cons_succ]
    rfl
  refine pure_ (i := 15) (N := some 31) (v := ?_) (a' := ?_) #[true, true, true, true, true, true, true, true, true, true, true, true, true, true, true, true, false, false, false, false, false] rfl rfl (by kernel_rfl) (fun _ _ _ h => h) (Or.inl ⟨by rfl, ?_⟩) ?_ ?_
  rotate_left
  · intro w'
    go_simp
    with_reducible rfl
  rotate_left
  · simp only [Act.put, List.setIfInBounds_toArray, List.set_cons_zero, List.set_cons_succ]
    rfl
  refine take_ (i := 16) (N := some 32) (v := .string (strOfNums l)) #[true, true, true, true, true, true, true, true, true, true, true, true, true, true, true, true, true, false, false, false, false] rfl rfl (by kernel_rfl) (fun _ _ _ h => h) (Or.inl ⟨by rfl, ?_⟩) ?_ (a' := ?_) ?_ ?_
  · intro w' hS
    exact str_y _ rfl _ _ _ rfl (Kd.C_below C1.out hS)
  · exact Hs.out
  rotate_left
  · simp only [Act.put, List.setIfInBounds_toArray, List.set_cons_zero, List.set_cons_succ]
    rfl
  refine pure_ (i := 17) (N := some 33) (v := ?_) (a' := ?_) #[true, true, true, true, true, true, true, true, true, true, true, true, true, true, true, true, true, true, false, false, false] rfl rfl (by kernel_rfl) (fun _ _ _ h => h) (Or.inl ⟨by rfl, ?_⟩) ?_ ?_
  rotate_left
  · intro w'
    go_simp
    with_reducible rfl
  rotate_left
  · simp only [Act.put, List.setIfInBounds_toArray, List.set_cons_zero, List.set_cons_succ]
    rfl
  refine take_ (i := 18) (N := some 34) (v := .string (strOfNums l)) #[true, true, true, true, true, true, true, true, true, true, true, true, true, true, true, true, true, true, true, false, false] rfl rfl (by kernel_rfl) (fun _ _ _ h => h) (Or.inl ⟨by rfl, ?_⟩) ?_ (a' := ?_) ?_ ?_
  · intro w' hS
    exact str_y _ rfl _ _ _ rfl (Kd.C_below HC2.out hS)
  · exact Hs.out
  rotate_left
  · simp only [Act.put, List.setIfInBounds_toArray, List.set_cons_zero, List.set_cons_succ]
    rfl
  refine pure_ (i := 19) (N := some 35) (v := ?_) (a' := ?_) #[true, true, true, true, true, true, true, true, true, true, true, true, true, true, true, true, true, true, true, true, false] rfl rfl (by kernel_rfl) (fun _ _ _ h => h) (Or.inl ⟨by rfl, ?_⟩) ?_ ?_
  rotate_left
  · intro w'
    go_simp
    with_reducible rfl
  rotate_left
  · simp only [Act.put, List.setIfInBounds_toArray, List.set_cons_zero, List.set_cons_succ]
    rfl
  refine pure_ (i := 20) (N := some 36) (v := ?_) (a' := ?_) #[true, true, true, true, true, true, true, true, true, true, true, true, true, true, true, true, true, true, true, true, true] rfl rfl (by kernel_rfl) (fun _ _ _ h => h) (Or.inl ⟨by rfl, ?_⟩) ?_ ?_
  rotate_left
  · intro w'
    go_simp
    with_reducible rfl
  rotate_left
  · simp only [Act.put, List.setIfInBounds_toArray, List.set_cons_zero, List.set_cons_succ]
    rfl
  refine done_ (by kernel_rfl) ?_
  go_wp2_with fail
  have HX := Aside0.mk (Kd.R_below HO2.out Hs.out)
  have HB := Aside0.mk (below_step HB2.out Hs.out)
  go_loopw [9] (fun v9 wq => ∃ (i : Int) (xs : List Int), v9 = .int .i64 i ∧ Aside0 (0 ≤ i ∧ i ≤ (b.length : Int)) ∧ Aside0 (xs.length = b.length) ∧ Aside0 (Kd.R (Kd.int .u8) 5 wq w.heap.size (fun _ => True) (.slice A2 b.length k2) xs) ∧ Aside0 (Below w.heap.size w wq)) (fun v9 _ => b.length - (intOf v9).toNat)
  case atStart => exact ⟨0, b, rfl, ⟨by omega⟩, ⟨rfl⟩, HX, HB⟩
  case round =>
    obtain ⟨i, xs, rfl, hi, hx, HX, HB⟩ := hrel
    have hi2 := hi.out
    have hb8' := hb8.out
    by_cases c : i < (b.length : Int)
    · have c0 : decide (i < (b.length : Int)) = true := decide_eq_true c
      have p42 : (0 : Int) ≤ i := hi2.1
      have hxl := hx.out
      have HX' := HX.out
      rw [← hxl] at HX'
      have q42 : i < ((xs.length : Nat) : Int) := by rw [hxl]; exact c
      obtain ⟨g, cap2, eo, gb, gl, cl, HG⟩ := Kd.R_form HX' (by omega)
      injection eo with ea en ec
      subst ea
      subst ec
      obtain ⟨hx42, hf42⟩ := Kd.R_celln 0 HX' i p42 q42
      have GB := Aside0.mk gb
      have HP := Aside0.mk (Kd.R_putg HX' i 99)
      rw [hxl] at HP
      have HN := Aside0.mk (show (xs.set i.toNat 99).length = b.length by rw [List.length_set]; exact hxl)
      have e2 : wrap64 (i + 1) = i + 1 := w64 (by omega) (by omega)
      have hi1 := Aside0.mk (show 0 ≤ i + 1 ∧ i + 1 ≤ (b.length : Int) from ⟨by omega, by omega⟩)
      have hm1 : b.length - (i + 1).toNat < b.length - i.toNat := by omega
      have HM := Aside0.mk hm1
      replace p42 := eq_true p42
      have q43 : (i < (b.length : Int)) = True := eq_true c
      clear q42 gb gl HG hxl hx cl HX' en HX hb8' hi2 hi hm1 c
      go_wp2_with fail
      go_roundw
      case measure => rw [e2]; exact HM.out
      case rel => exact ⟨i + 1, _, by rw [e2], hi1, HN, ⟨HP.out.1⟩, ⟨below_set HB.out GB.out⟩⟩
    · have c0 : decide (i < (b.length : Int)) = false := decide_eq_false c
      clear hx HX hi c hi2 hb8'
      go_wp2_with fail
      have Hs0 := Aside0.mk (below_drew1 (Below.refl wr.heap.size wr))
      refine start_ (n := 10) (S := fun w' => Below wr.heap.size wr w') (ds := []) #[false, false, false, false, false, false, false, false, false, false] (by kernel_rfl) rfl rfl Hs0.out (fun hs => ?_)
      have Hs := Aside0.mk hs
      clear hs Hs0
      refine pure_ (i := 0) (N := some 46) (v := ?_) (a' := ?_) #[true, false, false, false, false, false, false, false, false, false] rfl rfl (by kernel_rfl) (fun _ _ _ h => h) (Or.inl ⟨by rfl, ?_⟩) ?_ ?_
      rotate_left
      · intro w'
        go_simp
        with_reducible rfl
      rotate_left
      · simp only [Act.put, List.setIfInBounds_toArray, List.set_cons_zero, List.set_cons_succ]
        rfl
      refine pure_ (i := 1) (N := some 47) (v := ?_) (a' := ?_) #[true, true, false, false, false, false, false, false, false, false] rfl rfl (by kernel_rfl) (fun _ _ _ h => h) (Or.inl ⟨by rfl, ?_⟩) ?_ ?_
      rotate_left
      · intro w'
        go_simp
        with_reducible rfl
      rotate_left
      · simp only [Act.put, List.setIfInBounds_toArray, List.set_cons_zero, List.set_cons_succ]
        rfl
      refine pure_ (i := 4) (N := some 50) (v := ?_) (a' := ?_) #[true, true, false, false, true, false, false, false, false, false] rfl rfl (by kernel_rfl) (fun _ _ _ h => h) (Or.inl ⟨by rfl, ?_⟩) ?_ ?_
      rotate_left
      · intro w'
        go_simp
        with_reducible rfl
      rotate_left
      · simp only [Act.put, List.setIfInBounds_toArray, List.set_cons_zero, List.set_cons_succ]
        rfl
      refine pure_ (i := 5) (N := some 51) (v := ?_) (a' := ?_) #[true, true, false, false, true, true, false, false, false, false] rfl rfl (by kernel_rfl) (fun _ _ _ h => h) (Or.inl ⟨by rfl, ?_⟩) ?_ ?_
      rotate_left
      · intro w'
        go_simp
        with_reducible rfl
      rotate_left
      · simp only [Act.put, List.setIfInBounds_toArray, List.set_cons_zero, List.set_cons_succ]
        rfl
      refine one_ (i := 2) (N := some 48) #[true, true, true, false, true, true, false, false, false, false] rfl rfl (by kernel_rfl) (by decide) (fun K hK => ?_)
      refine call_ 13 _ (by rfl) rfl (by go_simp; rfl) ?_
      refine (word_Put.calls 12 n s b _ E1.out).mono ?_
      rintro e wn4 ⟨v4, rfl, hR, hB⟩
      obtain ⟨A4, k4, rfl⟩ := Kd.R_slice hR
      obtain ⟨_, _, hC⟩ := Kd.R_reads' hR
      have C4 := Aside0.mk hC
      refine ⟨_, rfl, ?_⟩
      refine hK.out _ _ (below_step Hs.out hB) (fun hs => ?_)
      clear hK K hB Hs hC hR
      have Hs := Aside0.mk hs
      clear hs
      refine norm_ (a' := ?_) ?_ ?_
      rotate_left
      · show Act.put _ (some 48) _ = _
        simp only [Act.put, List.setIfInBounds_toArray, List.set_cons_zero, List.set_cons_succ]
        rfl
      refine two_ (i := 3) (j := 6) (Ni := some 49) (Nj := some 52) #[true, true, true, true, true, true, false, false, false, false] #[true, true, true, false, true, true, true, false, false, false] rfl rfl rfl rfl (by kernel_rfl) (by decide) (by decide) (fun K hK => ?_) (fun K hK => ?_)
      · refine value_ (by rfl) rfl (str_y _ rfl _ _ _ rfl C4.out) ?_
        refine hK.out _ _ Hs.out (fun hs => ?_)
        clear hK K Hs
        have Hs := Aside0.mk hs
        clear hs
        refine norm_ (a' := ?_) ?_ ?_
        rotate_left
        · show Act.put _ (some 49) _ = _
          simp only [Act.put, List.setIfInBounds_toArray, List.set_cons_zero, List.set_cons_succ]
          rfl
        refine one_ (i := 6) (N := some 52) #[true, true, true, true, true, true, true, false, false, false] rfl rfl (by kernel_rfl) (by decide) (fun K hK => ?_)
        refine call_ 14 _ (by rfl) rfl (by go_simp; rfl) ?_
        refine (bulkheadref01_Put.calls 12 n s b _ E2.out).mono ?_
        rintro e wn5 ⟨v5, rfl, hR, hB⟩
        obtain ⟨A5, k5, rfl⟩ := Kd.R_slice hR
        obtain ⟨_, _, hC⟩ := Kd.R_reads' hR
        have C5 := Aside0.mk hC
        have D4 := Aside0.mk (Kd.C_below C4.out hB)
        refine ⟨_, rfl, ?_⟩
        refine hK.out _ _ (below_step Hs.out hB) (fun hs => ?_)
        clear hK K hB Hs hC hR
        have Hs := Aside0.mk hs
        clear hs
        refine norm_ (a' := ?_) ?_ ?_
        rotate_left
        · show Act.put _ (some 52) _ = _
          simp only [Act.put, List.setIfInBounds_toArray, List.set_cons_zero, List.set_cons_succ]
          rfl
        refine one_ (i := 7) (N := some 53) #[true, true, true, true, true, true, true, true, false, false] rfl rfl (by kernel_rfl) (by decide) (fun K hK => ?_)
        refine value_ (by rfl) rfl (str_y _ rfl _ _ _ rfl C5.out) ?_
        refine hK.out _ _ Hs.out (fun hs => ?_)
        clear hK K Hs
        have Hs := Aside0.mk hs
        clear hs
        refine norm_ (a' := ?_) ?_ ?_
        rotate_left
        · show Act.put _ (some 53) _ = _
          simp only [Act.put, List.setIfInBounds_toArray, List.set_cons_zero, List.set_cons_succ]
          rfl
        refine pure_ (i := 8) (N := some 54) (v := ?_) (a' := ?_) #[true, true, true, true, true, true, true, true, true, false] rfl rfl (by kernel_rfl) (fun _ _ _ h => h) (Or.inl ⟨by rfl, ?_⟩) ?_ ?_
        rotate_left
        · intro w'
          go_simp
          with_reducible rfl
        rotate_left
        · simp only [Act.put, List.setIfInBounds_toArray, List.set_cons_zero, List.set_cons_succ]
          rfl
        refine pure_ (i := 9) (N := some 6) (v := ?_) (a' := ?_) #[true, true, true, true, true, true, true, true, true, true] rfl rfl (by kernel_rfl) (fun _ _ _ h => h) (Or.inl ⟨by rfl, ?_⟩) ?_ ?_
        rotate_left
        · intro w'
          go_simp
          with_reducible rfl
        rotate_left
        · simp only [Act.put, List.setIfInBounds_toArray, List.set_cons_zero, List.set_cons_succ]
          rfl
        refine done_ (by kernel_rfl) ?_
        go_wp2_with fail
        go_ret
        exact ⟨rfl, below_step HB.out Hs.out⟩
      · refine call_ 14 _ (by rfl) rfl (by go_simp; rfl) ?_
        refine (bulkheadref01_Put.calls 12 n s b _ E2.out).mono ?_
        rintro e wn5 ⟨v5, rfl, hR, hB⟩
        obtain ⟨A5, k5, rfl⟩ := Kd.R_slice hR
        obtain ⟨_, _, hC⟩ := Kd.R_reads' hR
        have C5 := Aside0.mk hC
        have D4 := Aside0.mk (Kd.C_below C4.out hB)
        refine ⟨_, rfl, ?_⟩
        refine hK.out _ _ (below_step Hs.out hB) (fun hs => ?_)
        clear hK K hB Hs hC hR
        have Hs := Aside0.mk hs
        clear hs
        refine norm_ (a' := ?_) ?_ ?_
        rotate_left
        · show Act.put _ (some 52) _ = _
          simp only [Act.put, List.setIfInBounds_toArray, List.set_cons_zero, List.set_cons_succ]
          rfl
        refine two_ (i := 3) (j := 7) (Ni := some 49) (Nj := some 53) #[true, true, true, true, true, true, true, false, false, false] #[true, true, true, false, true, true, true, true, false, false] rfl rfl rfl rfl (by kernel_rfl) (by decide) (by decide) (fun K hK => ?_) (fun K hK => ?_)
        · refine value_ (by rfl) rfl (str_y _ rfl _ _ _ rfl D4.out) ?_
          refine hK.out _ _ Hs.out (fun hs => ?_)
          clear hK K Hs
          have Hs := Aside0.mk hs
          clear hs
          refine norm_ (a' := ?_) ?_ ?_
          rotate_left
          · show Act.put _ (some 49) _ = _
            simp only [Act.put, List.setIfInBounds_toArray, List.set_cons_zero, List.set_cons_succ]
            rfl
          refine one_ (i := 7) (N := some 53) #[true, true, true, true, true, true, true, true, false, false] rfl rfl (by kernel_rfl) (by decide) (fun K hK => ?_)
          refine value_ (by rfl) rfl (str_y _ rfl _ _ _ rfl C5.out) ?_
          refine hK.out _ _ Hs.out (fun hs => ?_)
          clear hK K Hs
          have Hs := Aside0.mk hs
          clear hs
          refine norm_ (a' := ?_) ?_ ?_
          rotate_left
          · show Act.put _ (some 53) _ = _
            simp only [Act.put, List.setIfInBounds_toArray, List.set_cons_zero, List.set_cons_succ]
            rfl
          refine pure_ (i := 8) (N := some 54) (v := ?_) (a' := ?_) #[true, true, true, true, true, true, true, true, true, false] rfl rfl (by kernel_rfl) (fun _ _ _ h => h) (Or.inl ⟨by rfl, ?_⟩) ?_ ?_
          rotate_left
          · intro w'
            go_simp
            with_reducible rfl
          rotate_left
          · simp only [Act.put, List.setIfInBounds_toArray, List.set_cons_zero, List.set_cons_succ]
            rfl
          refine pure_ (i := 9) (N := some 6) (v := ?_) (a' := ?_) #[true, true, true, true, true, true, true, true, true, true] rfl rfl (by kernel_rfl) (fun _ _ _ h => h) (Or.inl ⟨by rfl, ?_⟩) ?_ ?_
          rotate_left
          · intro w'
            go_simp
            with_reducible rfl
          rotate_left
          · simp only [Act.put, List.setIfInBounds_toArray, List.set_cons_zero, List.set_cons_succ]
            rfl
          refine done_ (by kernel_rfl) ?_
          go_wp2_with fail
          go_ret
          exact ⟨rfl, below_step HB.out Hs.out⟩
        · refine value_ (by rfl) rfl (str_y _ rfl _ _ _ rfl C5.out) ?_
          refine hK.out _ _ Hs.out (fun hs => ?_)
          clear hK K Hs
          have Hs := Aside0.mk hs
          clear hs
          refine norm_ (a' := ?_) ?_ ?_
          rotate_left
          · show Act.put _ (some 53) _ = _
            simp only [Act.put, List.setIfInBounds_toArray, List.set_cons_zero, List.set_cons_succ]
            rfl
          refine one_ (i := 3) (N := some 49) #[true, true, true, true, true, true, true, true, false, false] rfl rfl (by kernel_rfl) (by decide) (fun K hK => ?_)
          refine value_ (by rfl) rfl (str_y _ rfl _ _ _ rfl D4.out) ?_
          refine hK.out _ _ Hs.out (fun hs => ?_)
          clear hK K Hs
          have Hs := Aside0.mk hs
          clear hs
          refine norm_ (a' := ?_) ?_ ?_
          rotate_left
          · show Act.put _ (some 49) _ = _
            simp only [Act.put, List.setIfInBounds_toArray, List.set_cons_zero, List.set_cons_succ]
            rfl
          refine pure_ (i := 8) (N := some 54) (v := ?_) (a' := ?_) #[true, true, true, true, true, true, true, true, true, false] rfl rfl (by kernel_rfl) (fun _ _ _ h => h) (Or.inl ⟨by rfl, ?_⟩) ?_ ?_
          rotate_left
          · intro w'
            go_simp
            with_reducible rfl
          rotate_left
          · simp only [Act.put, List.setIfInBounds_toArray, List.set_cons_zero, List.set_cons_succ]
            rfl
          refine pure_ (i := 9) (N := some 6) (v := ?_) (a' := ?_) #[true, true, true, true, true, true, true, true, true, true] rfl rfl (by kernel_rfl) (fun _ _ _ h => h) (Or.inl ⟨by rfl, ?_⟩) ?_ ?_
          rotate_left
          · intro w'
            go_simp
            with_reducible rfl
          rotate_left
          · simp only [Act.put, List.setIfInBounds_toArray, List.set_cons_zero, List.set_cons_succ]
            rfl
          refine done_ (by kernel_rfl) ?_
          go_wp2_with fail
          go_ret
          exact ⟨rfl, below_step HB.out Hs.out⟩
theorem walk (n s : Int) (a0 : Option Addr) (len0 cap0 : Nat) (z0 : List Int) (w : World) (h0 : (Lit.int .u64 n).wf = true) (h1 : (Lit.int .i64 s).wf = true)
    (w0 : (a0 = none ∧ len0 = 0 ∧ cap0 = 0 ∧ z0 = []) ∨ ∃ x, a0 = some x ∧ len0 ≤ cap0 ∧ cap0 ≤ maxLen ∧ z0.length = cap0 ∧ (∀ i, i < z0.length → w.cell? (x.add i) = some (.int .u8 (z0.getD i 0))) ∧ ∀ n ∈ z0, (Lit.int .u8 n).wf = true) (y0 : len0 * 1 ≤ 140737488351232) :
    Calls Try.prog 4 #[.int .u64 n, .int .i64 s, .slice a0 len0 cap0] w fun e w' => e = .returned (.bool true) ∧ Below w.heap.size w w' := by
  have hcm : cap0 ≤ 9223372036854775807 := by
    rcases w0 with ⟨_, _, h, _⟩ | ⟨_, _, _, h, _⟩
    · omega
    · unfold maxLen at h
      omega
  obtain ⟨l, rfl, hr, hm, hw, hc⟩ := ReadsInt.ofRowC w0
  have b0 := u64_bd h0
  have b1 := i64_bd h1
  exact law n s a0 cap0 l w b0.1 b0.2 b1.1 b1.2 ⟨Kd.C_of_reads (d := (0 : Int)) (h1 := fun _ => rfl) hr⟩ hc hcm ⟨fun x hx => u8_bd (hw x hx)⟩ (by omega)
end Go.Proofs.Ythhhebdcccfgkaa.LawWB
