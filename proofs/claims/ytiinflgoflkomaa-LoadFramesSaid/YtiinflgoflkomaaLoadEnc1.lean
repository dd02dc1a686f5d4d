/- The closure of load.Encode. -/
import Derived.Test.YtiinflgoflkomaaLoadPut
import Derived.Test.YtiinflgoflkomaaLoadSame2
namespace Go.Proofs.Ytiinflgoflkomaa.LoadEnc1
open Go.RowKit Go.Proofs.Ytiinflgoflkomaa.PLoadChecks Go.Proofs.YtiinflgoflkomaaW.PrintWords Go.Proofs.YtiinflgoflkomaaW.PrintLast Go.Proofs.YtiinflgoflkomaaW.PrintMore Go.Proofs.Ytiinflgoflkomaa.Aid Go.Proofs.Ytiinflgoflkomaa.LoadF Go.Proofs.Ytiinflgoflkomaa.LoadPut Go.Proofs.Ytiinflgoflkomaa.LoadSame2
set_option linter.unusedVariables false
set_option linter.unusedSimpArgs false
def Rest (w w' : World) (g : Nat) : Prop := ∀ k cs t, w.heap[k]? = some (.cells cs t (0, 0)) → t ≠ 5 → k ≠ g → w'.heap[k]? = some (.cells cs t (0, 0))
def Row (w0 w : World) (v : Value) (xs : List Int) : Prop := Kd.R (Kd.int .u8) 5 w w0.heap.size (fun _ => True) v xs
set_option maxHeartbeats 1600000 in
set_option maxRecDepth 100000 in
theorem enc1_calls (n : Int) (m : Nat) (xs : List Int) (g : Nat) (v : Value) (w0 w : World) (n0 : Aside0 (0 ≤ n)) (n1 : Aside0 (n < 18446744073709551616)) (hm : Aside0 (m ≤ 8)) (hx : Aside0 (xs.length ≤ 1000000)) (hg : Aside0 (w0.heap.size ≤ g))
    (hb : Aside0 (w.heap[g]? = some (.cells #[v] 27 (0, 0)))) (ho : Aside0 (Row w0 w v xs)) (hB0 : Aside0 (Below w0.heap.size w0 w)) :
    Calls Try.prog 20 #[.int .i64 n, .int .i64 (m : Int), .pointer (some ⟨g, 0, none⟩)] w fun e w' => e = .returned (.tuple #[]) ∧ ∃ v', w'.heap[g]? = some (.cells #[v'] 27 (0, 0)) ∧ Row w0 w' v' (xs ++ le n m) ∧ Below w0.heap.size w0 w' ∧ Rest w w' g := by
  have e0 : IntKind.u64.wrap n = n := by
    have := n0.out
    have := n1.out
    rw [u64w]
    omega
  have e1 : n % 18446744073709551616 = n := by
    have := n0.out
    have := n1.out
    omega
  have c0 : w.cell? ⟨g, 0, none⟩ = some v := (blk_cell hb.out 0).trans rfl
  go_enter Try.func20, Try.ntmps20
  go_wp2_with fail
  have Hs0 := Aside0.mk (below_drew1 (Below.refl w.heap.size w))
  refine start_ (n := 7) (S := fun w' => Below w.heap.size w w') (ds := [5, 6]) #[false, false, false, false, false, false, false] (by kernel_rfl) rfl rfl Hs0.out (fun hs => ?_)
  have Hs := Aside0.mk hs
  clear hs Hs0
  refine take_ (i := 0) (N := some 5) (v := v) #[true, false, false, false, false, false, false] rfl rfl (by kernel_rfl) (fun _ _ _ h => h) (Or.inl ⟨by rfl, ?_⟩) ?_ (a' := ?_) ?_ ?_
  · intro w' hS
    have t0 := cell_below hS c0
    go_simp
  · exact Hs.out
  rotate_left
  · simp only [Act.put, List.setIfInBounds_toArray, List.set_cons_zero, List.set_cons_succ]
    rfl
  refine pure_ (i := 1) (N := some 6) (v := ?_) (a' := ?_) #[true, true, false, false, false, false, false] rfl rfl (by kernel_rfl) (fun _ _ _ h => h) (Or.inl ⟨by rfl, ?_⟩) ?_ ?_
  rotate_left
  · intro w'
    go_simp
    with_reducible rfl
  rotate_left
  · simp only [Act.put, List.setIfInBounds_toArray, List.set_cons_zero, List.set_cons_succ]
    rfl
  refine pure_ (i := 2) (N := some 7) (v := ?_) (a' := ?_) #[true, true, true, false, false, false, false] rfl rfl (by kernel_rfl) (fun _ _ _ h => h) (Or.inl ⟨by rfl, ?_⟩) ?_ ?_
  rotate_left
  · intro w'
    go_simp
    with_reducible rfl
  rotate_left
  · simp only [Act.put, List.setIfInBounds_toArray, List.set_cons_zero, List.set_cons_succ]
    rfl
  refine pure_ (i := 3) (N := some 8) (v := ?_) (a' := ?_) #[true, true, true, true, false, false, false] rfl rfl (by kernel_rfl) (fun _ _ _ h => h) (Or.inl ⟨by rfl, ?_⟩) ?_ ?_
  rotate_left
  · intro w'
    go_simp
    with_reducible rfl
  rotate_left
  · simp only [Act.put, List.setIfInBounds_toArray, List.set_cons_zero, List.set_cons_succ]
    rfl
  refine one_ (i := 4) (N := some 9) #[true, true, true, true, true, false, false] rfl rfl (by kernel_rfl) (by decide) (fun K hK => ?_)
  refine call_ 21 _ (by rfl) rfl (by go_simp; rfl) ?_
  refine (put_calls n m _ n0.out n1.out hm.out).mono ?_
  rintro e wp ⟨vp, rfl, hrp, hB⟩
  obtain ⟨A9, c9, rfl, hl9, hr9⟩ := Kd.R_reads hrp
  have HR9 := Aside0.mk hr9
  clear hrp hl9 hr9
  refine ⟨_, rfl, ?_⟩
  refine hK.out _ _ (below_step Hs.out hB) (fun hs => ?_)
  clear hK K hB Hs
  have Hs := Aside0.mk hs
  clear hs
  refine norm_ (a' := ?_) ?_ ?_
  rotate_left
  · show Act.put _ (some 9) _ = _
    simp only [Act.put, List.setIfInBounds_toArray, List.set_cons_zero, List.set_cons_succ]
    rfl
  have hbw := blk_below hb.out Hs.out
  have hob : Row w0 wp v xs := Kd.R_below ho.out Hs.out
  have hB1 : Below w0.heap.size w0 wp := below_then hB0.out hB0.out.size Hs.out
  refine last_ (i := 5) (N := some 10) #[true, true, true, true, true, true, false] rfl rfl (by kernel_rfl) (by decide) (fun K hK => ?_)
  refine Kd.R_append_rows_step (Kd.int .u8) (w0 := w0) w0.heap.size (by rfl) (.tmp 5) (.tmp 9) 27 5 (.int .u8 0) 1 rfl Try.underlying27 info5 rfl (by decide) (by omega) v xs (le n m) A9 (le n m).length c9 (fun _ => True) (fun _ => False) rfl rfl hob HR9.out (fun _ _ h => h) (fun _ h => h.elim) (fun _ _ => trivial) hB1 hB1.size (by have := hx.out; have := hm.out; rw [le_length]; omega) ?_
  intro v2 w2 hrow hB2 hgr hat
  obtain ⟨A3, c3, e3, _, _⟩ := Kd.R_reads hrow
  have E3 := Aside0.mk e3
  clear e3
  have hbg := blk_grown hbw hgr (Kd.R_ne hob hbw (by decide))
  have hRest : ∀ k cs t, w.heap[k]? = some (.cells cs t (0, 0)) → t ≠ 5 → k ≠ g → w2.heap[k]? = some (.cells cs t (0, 0)) := fun k cs t hk ht _ => blk_grown (blk_below hk Hs.out) hgr (Kd.R_ne hob (blk_below hk Hs.out) (Ne.symm ht))
  have hrow2 : Kd.R (Kd.int .u8) 5 w2 w0.heap.size (fun k => k ≠ g) v2 (xs ++ le n m) := Kd.R_mono (Kd.R_bound hrow) (fun k hk e => by
    subst e
    obtain ⟨_, _, _, q, hq, cells, hc⟩ := hk
    rw [hbg] at hc
    have h27 : q = 27 := by simpa using (congrArg (fun o : Option Obj => match o with | some (.cells _ q _) => q | _ => 0) hc).symm
    subst h27
    have hE : (Kd.int IntKind.u8).E = [] := rfl
    rw [hE] at hq
    revert hq
    decide)
  have HROW := Aside0.mk hrow2
  have HB2 := Aside0.mk hB2
  have HREST := Aside0.mk hRest
  have HBG := Aside0.mk hbg
  refine hK.out _ _ ?_
  clear hK K Hs hrow hrow2 hB2 hgr hat hRest hbg hob hbw hB1 ho hb hB0 c0 HR9
  refine norm_ (a' := ?_) ?_ ?_
  rotate_left
  · show Act.put _ (some 10) _ = _
    simp only [Act.put, List.setIfInBounds_toArray, List.set_cons_zero, List.set_cons_succ]
    rfl
  refine last_ (i := 6) (N := none) #[true, true, true, true, true, true, true] rfl rfl (by kernel_rfl) (by decide) (fun K hK => ?_)
  obtain rfl := E3.out
  have a0 : w2.cell? ⟨g, 0, none⟩ = some v := (blk_cell HBG.out 0).trans rfl
  have f0 := blk_frozen HBG.out 0
  refine skip_ (w1 := w2.setCell ⟨g, 0, none⟩ (.slice A3 (xs ++ le n m).length c3)) (by rfl) rfl (by first | (go_simp; done) | (go_simp; rfl)) ?_
  refine hK.out _ _ ?_
  clear hK K a0 f0
  refine done_ (by kernel_rfl) ?_
  go_end0
  refine ⟨rfl, _, blk_put HBG.out 0 _ rfl, Kd.R_mono (Kd.R_far HROW.out (fun k hk => hk) _) (fun _ _ => trivial), HB2.out.setCell hg.out _, fun k cs t hk ht hne => blk_far (HREST.out k cs t hk ht hne) hne _⟩
end Go.Proofs.Ytiinflgoflkomaa.LoadEnc1
