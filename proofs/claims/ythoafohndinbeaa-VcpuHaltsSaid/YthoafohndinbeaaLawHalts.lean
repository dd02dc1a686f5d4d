/- Who has halted stays so: the walk of the law. -/
import Derived.Test.YthoafohndinbeaaVcpuWorks
import Derived.Test.YthoafohndinbeaaVcpuLd2
import Derived.Test.YthoafohndinbeaaVcpuBackPure
namespace Go.Proofs.Ythoafohndinbeaa.LawHalts
open Go.RowKit Go.Proofs.Ythoafohndinbeaa.PVcpuBack Go.Proofs.YthoafohndinbeaaW.PrintWords Go.Proofs.YthoafohndinbeaaW.PrintLast Go.Proofs.YthoafohndinbeaaW.PrintMore Go.Proofs.Ythoafohndinbeaa.Aid Go.Proofs.Ythoafohndinbeaa.VcpuBase Go.Proofs.Ythoafohndinbeaa.VcpuCheck Go.Proofs.Ythoafohndinbeaa.VcpuEq Go.Proofs.Ythoafohndinbeaa.VcpuLd Go.Proofs.Ythoafohndinbeaa.VcpuLd2 Go.Proofs.Ythoafohndinbeaa.VcpuEnter Go.Proofs.Ythoafohndinbeaa.VcpuWorks
attribute [local go_sem high] eqCx eqRg eqCt cxEq_self regsEq_self ctlEq_self
set_option maxHeartbeats 3200000
set_option maxRecDepth 100000
set_option linter.unusedVariables false
theorem st_step {ops : Array Oper} {o : Oper} {a : Act} {W : World} {K : Act → World → Prop} {Q : Exit → Act → World → Prop} (hw : Region.wanted o (yielded ops a.tmps) = true) (x y : Operand) (ho : o.op = .store 31 x y) (g : Nat) (c : Cx) (hx : a.eval x = .pointer (some ⟨g, 0, none⟩)) (hy : a.eval y = .agg (vc c))
    (c0 : Cx) (hg : W.heap[g]? = some (.cells (vc c0) 31 (0, 0))) (h : K (a.put o.dst undef) (W.setRow g (vc c))) : if Region.wanted o (yielded ops a.tmps) = true then Oper.wp Try.prog o a W K Q else K (a.put o.dst undef) W := by
  rw [if_pos hw]
  exact wp_store_row 31 x y ho g (vc c) hx hy 31 (vc c0) hg (by kernel_rfl) rfl (vc_one c) h
theorem below_rowb {w W : World} {g : Nat} (h : Below w.heap.size w W) (hg : w.heap.size ≤ g) (cs : Array Value) : Below w.heap.size w (W.setRow g cs) := below_row h hg cs
section
variable (c : Cx) (n tv : Int) (w : World) (d r : Cx)
theorem halts_ha (hf : Wf c) (HD : Aside0 (enterC c n tv = d)) (HR : Aside0 (returnC c = r)) (p0 : (c.ha == 0) = false) (p0n : (c.ha != 0) = true) (q1 : cxEq d c = true) (q2 : cxEq r c = true) :
    Calls Try.prog 7 #[.agg (vc c), .int .i64 n, .int .u32 tv] w fun e w' => e = .returned (.bool true) ∧ Below w.heap.size w w' := by
  go_enter Try.func7, Try.ntmps7
  go_wp2_with fail
  refine (works_calls _).mono ?_
  rintro e w1 ⟨rfl, hB⟩
  have B1 := Aside0.mk ((hB.block w.heap.size (by simp)).trans (heap_alloc_new w _))
  have H1 := Aside0.mk ((below_alloc (Below.refl w.heap.size w) _).trans (hB.mono (by simp)))
  have l1 := blk_lt B1.out
  clear hB
  go_wp2_with fail
  have Hs0 := Aside0.mk (below_drew1 (Below.refl w1.heap.size w1))
  refine start_ (n := 10) (S := fun w' => Below w1.heap.size w1 w') (ds := []) #[false, false, false, false, false, false, false, false, false, false] (by kernel_rfl) rfl rfl Hs0.out (fun hs => ?_)
  have Hs := Aside0.mk hs
  clear hs Hs0
  refine take_ (i := 0) (N := some 12) (v := .agg (vc c)) #[true, false, false, false, false, false, false, false, false, false] rfl rfl (by kernel_rfl) (fun _ _ _ h => h) (Or.inl ⟨by rfl, ?_⟩) ?_ (a' := ?_) ?_ ?_
  · intro w' hS
    exact ld_y _ rfl w.heap.size rfl c (blk_below B1.out hS)
  · exact Hs.out
  rotate_left
  · simp only [Act.put, List.setIfInBounds_toArray, List.set_cons_zero, List.set_cons_succ]
    rfl
  refine take_ (i := 4) (N := some 16) (v := .agg (vc c)) #[true, false, false, false, true, false, false, false, false, false] rfl rfl (by kernel_rfl) (fun _ _ _ h => h) (Or.inl ⟨by rfl, ?_⟩) ?_ (a' := ?_) ?_ ?_
  · intro w' hS
    exact ld_y _ rfl w.heap.size rfl c (blk_below B1.out hS)
  · exact Hs.out
  rotate_left
  · simp only [Act.put, List.setIfInBounds_toArray, List.set_cons_zero, List.set_cons_succ]
    rfl
  refine pure_ (i := 1) (N := some 13) (v := ?_) (a' := ?_) #[true, true, false, false, true, false, false, false, false, false] rfl rfl (by kernel_rfl) (fun _ _ _ h => h) (Or.inl ⟨by rfl, ?_⟩) ?_ ?_
  rotate_left
  · intro w'
    go_simp
    with_reducible rfl
  rotate_left
  · simp only [Act.put, List.setIfInBounds_toArray, List.set_cons_zero, List.set_cons_succ]
    rfl
  refine pure_ (i := 2) (N := some 14) (v := ?_) (a' := ?_) #[true, true, true, false, true, false, false, false, false, false] rfl rfl (by kernel_rfl) (fun _ _ _ h => h) (Or.inl ⟨by rfl, ?_⟩) ?_ ?_
  rotate_left
  · intro w'
    go_simp
    with_reducible rfl
  rotate_left
  · simp only [Act.put, List.setIfInBounds_toArray, List.set_cons_zero, List.set_cons_succ]
    rfl
  refine join_ (σ := Nat × Nat) 2 #[true, true, true, true, true, true, true, true, false, false] (fun s => [(15, Value.agg (vc d)), (17, Value.agg (vc r)), (7, Value.pointer (some ⟨s.1, 0, none⟩)), (8, Value.pointer (some ⟨s.2, 0, none⟩))]) (fun s w' => (Below w1.heap.size w1 w') ∧ (w1.heap.size ≤ s.1 ∧ w'.heap[s.1]? = some (.cells (vc zc) 31 (0, 0))) ∧ (w1.heap.size ≤ s.2 ∧ w'.heap[s.2]? = some (.cells (vc zc) 31 (0, 0))) ∧ (s.1 ≠ s.2)) ?_ ?_
  rotate_left
  · intro hJ3_5_6_7
    refine join_ (σ := Nat × Nat) 3 #[true, true, true, true, true, true, true, false, false, false] (fun s => [(15, Value.agg (vc d)), (17, Value.agg (vc r)), (7, Value.pointer (some ⟨s.1, 0, none⟩))]) (fun s w' => (Below w1.heap.size w1 w') ∧ (w1.heap.size ≤ s.1 ∧ w'.heap[s.1]? = some (.cells (vc zc) 31 (0, 0)))) ?_ ?_
    rotate_left
    · intro hJ3_5_6
      refine join_ (σ := Nat × Nat) 3 #[true, true, true, true, true, true, false, true, false, false] (fun s => [(15, Value.agg (vc d)), (17, Value.agg (vc r)), (8, Value.pointer (some ⟨s.2, 0, none⟩))]) (fun s w' => (Below w1.heap.size w1 w') ∧ (w1.heap.size ≤ s.2 ∧ w'.heap[s.2]? = some (.cells (vc zc) 31 (0, 0)))) ?_ ?_
      rotate_left
      · intro hJ3_5_7
        refine join_ (σ := Nat × Nat) 3 #[true, true, true, true, true, false, true, true, false, false] (fun s => [(15, Value.agg (vc d)), (7, Value.pointer (some ⟨s.1, 0, none⟩)), (8, Value.pointer (some ⟨s.2, 0, none⟩))]) (fun s w' => (Below w1.heap.size w1 w') ∧ (w1.heap.size ≤ s.1 ∧ w'.heap[s.1]? = some (.cells (vc zc) 31 (0, 0))) ∧ (w1.heap.size ≤ s.2 ∧ w'.heap[s.2]? = some (.cells (vc zc) 31 (0, 0))) ∧ (s.1 ≠ s.2)) ?_ ?_
        rotate_left
        · intro hJ3_6_7
          refine join_ (σ := Nat × Nat) 4 #[true, true, true, true, true, true, false, false, false, false] (fun s => [(15, Value.agg (vc d)), (17, Value.agg (vc r))]) (fun s w' => (Below w1.heap.size w1 w')) ?_ ?_
          rotate_left
          · intro hJ3_5
            refine join_ (σ := Nat × Nat) 4 #[true, true, true, true, true, false, true, false, false, false] (fun s => [(15, Value.agg (vc d)), (7, Value.pointer (some ⟨s.1, 0, none⟩))]) (fun s w' => (Below w1.heap.size w1 w') ∧ (w1.heap.size ≤ s.1 ∧ w'.heap[s.1]? = some (.cells (vc zc) 31 (0, 0)))) ?_ ?_
            rotate_left
            · intro hJ3_6
              refine join_ (σ := Nat × Nat) 4 #[true, true, true, true, true, false, false, true, false, false] (fun s => [(15, Value.agg (vc d)), (8, Value.pointer (some ⟨s.2, 0, none⟩))]) (fun s w' => (Below w1.heap.size w1 w') ∧ (w1.heap.size ≤ s.2 ∧ w'.heap[s.2]? = some (.cells (vc zc) 31 (0, 0)))) ?_ ?_
              rotate_left
              · intro hJ3_7
                refine join_ (σ := Nat × Nat) 4 #[true, true, true, false, true, false, true, true, false, false] (fun s => [(7, Value.pointer (some ⟨s.1, 0, none⟩)), (8, Value.pointer (some ⟨s.2, 0, none⟩))]) (fun s w' => (Below w1.heap.size w1 w') ∧ (w1.heap.size ≤ s.1 ∧ w'.heap[s.1]? = some (.cells (vc zc) 31 (0, 0))) ∧ (w1.heap.size ≤ s.2 ∧ w'.heap[s.2]? = some (.cells (vc zc) 31 (0, 0))) ∧ (s.1 ≠ s.2)) ?_ ?_
                rotate_left
                · intro hJ6_7
                  refine join_ (σ := Nat × Nat) 5 #[true, true, true, true, true, false, false, false, false, false] (fun s => [(15, Value.agg (vc d))]) (fun s w' => (Below w1.heap.size w1 w')) ?_ ?_
                  rotate_left
                  · intro hJ3
                    refine join_ (σ := Nat × Nat) 5 #[true, true, true, false, true, false, true, false, false, false] (fun s => [(7, Value.pointer (some ⟨s.1, 0, none⟩))]) (fun s w' => (Below w1.heap.size w1 w') ∧ (w1.heap.size ≤ s.1 ∧ w'.heap[s.1]? = some (.cells (vc zc) 31 (0, 0)))) ?_ ?_
                    rotate_left
                    · intro hJ6
                      refine join_ (σ := Nat × Nat) 5 #[true, true, true, false, true, false, false, true, false, false] (fun s => [(8, Value.pointer (some ⟨s.2, 0, none⟩))]) (fun s w' => (Below w1.heap.size w1 w') ∧ (w1.heap.size ≤ s.2 ∧ w'.heap[s.2]? = some (.cells (vc zc) 31 (0, 0)))) ?_ ?_
                      rotate_left
                      · intro hJ7
                        have hS := Hs.out
                        generalize w1.drew = wc at *
                        refine three_ (i := 3) (j := 6) (k := 7) (Ni := some 15) (Nj := some 7) (Nk := some 8) #[true, true, true, true, true, false, false, false, false, false] #[true, true, true, false, true, false, true, false, false, false] #[true, true, true, false, true, false, false, true, false, false] rfl rfl rfl rfl rfl rfl (by kernel_rfl) (by decide) (by decide) (by decide) (fun K hK => ?_) (fun K hK => ?_) (fun K hK => ?_)
                        · skip
                          refine call_ 17 _ (by rfl) rfl (by go_simp; rfl) ?_
                          refine (enter_calls c n tv _ hf.st.1 hf.st.2).mono ?_
                          rintro e wn ⟨rfl, hB⟩
                          rw [HD.out]
                          refine ⟨_, rfl, ?_⟩
                          refine hK.out _ _ (below_step hS hB) (fun hs => ?_)
                          refine norm_ ?_ (hJ3 (0, 0) wn (below_step hS hB))
                          first | (simp only [putAll, Act.put, List.setIfInBounds_toArray, List.set_cons_zero, List.set_cons_succ]; done) | (simp only [putAll, Act.put, List.setIfInBounds_toArray, List.set_cons_zero, List.set_cons_succ]; rfl)
                        · skip
                          refine box_step (by rfl) (N := 7) rfl (cs := vc zc) (t := 31) (by go_simp; rfl) ?_
                          intro gn hgn wn hbn hB
                          subst hgn
                          refine hK.out _ _ (below_step hS hB) (fun hs => ?_)
                          refine norm_ ?_ (hJ6 (wc.heap.size, 0) wn ⟨below_step hS hB, ⟨hS.size, hbn⟩⟩)
                          first | (simp only [putAll, Act.put, List.setIfInBounds_toArray, List.set_cons_zero, List.set_cons_succ]; done) | (simp only [putAll, Act.put, List.setIfInBounds_toArray, List.set_cons_zero, List.set_cons_succ]; rfl)
                        · skip
                          refine box_step (by rfl) (N := 8) rfl (cs := vc zc) (t := 31) (by go_simp; rfl) ?_
                          intro gn hgn wn hbn hB
                          subst hgn
                          refine hK.out _ _ (below_step hS hB) (fun hs => ?_)
                          refine norm_ ?_ (hJ7 (0, wc.heap.size) wn ⟨below_step hS hB, ⟨hS.size, hbn⟩⟩)
                          first | (simp only [putAll, Act.put, List.setIfInBounds_toArray, List.set_cons_zero, List.set_cons_succ]; done) | (simp only [putAll, Act.put, List.setIfInBounds_toArray, List.set_cons_zero, List.set_cons_succ]; rfl)
                      · skip
                        rintro s wc ⟨hS, ⟨hg7, hb7⟩⟩
                        refine norm_ (a' := ?_) ?_ ?_
                        rotate_left
                        · simp only [putAll, Act.put, List.setIfInBounds_toArray, List.set_cons_zero, List.set_cons_succ]
                          rfl
                        refine two_ (i := 3) (j := 6) (Ni := some 15) (Nj := some 7) #[true, true, true, true, true, false, false, true, false, false] #[true, true, true, false, true, false, true, true, false, false] rfl rfl rfl rfl (by kernel_rfl) (by decide) (by decide) (fun K hK => ?_) (fun K hK => ?_)
                        · skip
                          refine call_ 17 _ (by rfl) rfl (by go_simp; rfl) ?_
                          refine (enter_calls c n tv _ hf.st.1 hf.st.2).mono ?_
                          rintro e wn ⟨rfl, hB⟩
                          rw [HD.out]
                          refine ⟨_, rfl, ?_⟩
                          refine hK.out _ _ (below_step hS hB) (fun hs => ?_)
                          refine norm_ ?_ (hJ3_7 (s.1, s.2) wn ⟨below_step hS hB, ⟨hg7, blk_below hb7 hB⟩⟩)
                          first | (simp only [putAll, Act.put, List.setIfInBounds_toArray, List.set_cons_zero, List.set_cons_succ]; done) | (simp only [putAll, Act.put, List.setIfInBounds_toArray, List.set_cons_zero, List.set_cons_succ]; rfl)
                        · skip
                          refine box_step (by rfl) (N := 7) rfl (cs := vc zc) (t := 31) (by go_simp; rfl) ?_
                          intro gn hgn wn hbn hB
                          subst hgn
                          refine hK.out _ _ (below_step hS hB) (fun hs => ?_)
                          refine norm_ ?_ (hJ6_7 (wc.heap.size, s.2) wn ⟨below_step hS hB, ⟨hS.size, hbn⟩, ⟨hg7, blk_below hb7 hB⟩, (show _ ≠ _ from (fun h => by have := blk_lt hb7; simp only at h; omega))⟩)
                          first | (simp only [putAll, Act.put, List.setIfInBounds_toArray, List.set_cons_zero, List.set_cons_succ]; done) | (simp only [putAll, Act.put, List.setIfInBounds_toArray, List.set_cons_zero, List.set_cons_succ]; rfl)
                    · skip
                      rintro s wc ⟨hS, ⟨hg6, hb6⟩⟩
                      refine norm_ (a' := ?_) ?_ ?_
                      rotate_left
                      · simp only [putAll, Act.put, List.setIfInBounds_toArray, List.set_cons_zero, List.set_cons_succ]
                        rfl
                      refine two_ (i := 3) (j := 7) (Ni := some 15) (Nj := some 8) #[true, true, true, true, true, false, true, false, false, false] #[true, true, true, false, true, false, true, true, false, false] rfl rfl rfl rfl (by kernel_rfl) (by decide) (by decide) (fun K hK => ?_) (fun K hK => ?_)
                      · skip
                        refine call_ 17 _ (by rfl) rfl (by go_simp; rfl) ?_
                        refine (enter_calls c n tv _ hf.st.1 hf.st.2).mono ?_
                        rintro e wn ⟨rfl, hB⟩
                        rw [HD.out]
                        refine ⟨_, rfl, ?_⟩
                        refine hK.out _ _ (below_step hS hB) (fun hs => ?_)
                        refine norm_ ?_ (hJ3_6 (s.1, s.2) wn ⟨below_step hS hB, ⟨hg6, blk_below hb6 hB⟩⟩)
                        first | (simp only [putAll, Act.put, List.setIfInBounds_toArray, List.set_cons_zero, List.set_cons_succ]; done) | (simp only [putAll, Act.put, List.setIfInBounds_toArray, List.set_cons_zero, List.set_cons_succ]; rfl)
                      · skip
                        refine box_step (by rfl) (N := 8) rfl (cs := vc zc) (t := 31) (by go_simp; rfl) ?_
                        intro gn hgn wn hbn hB
                        subst hgn
                        refine hK.out _ _ (below_step hS hB) (fun hs => ?_)
                        refine norm_ ?_ (hJ6_7 (s.1, wc.heap.size) wn ⟨below_step hS hB, ⟨hg6, blk_below hb6 hB⟩, ⟨hS.size, hbn⟩, (show _ ≠ _ from (fun h => by have := blk_lt hb6; simp only at h; omega))⟩)
                        first | (simp only [putAll, Act.put, List.setIfInBounds_toArray, List.set_cons_zero, List.set_cons_succ]; done) | (simp only [putAll, Act.put, List.setIfInBounds_toArray, List.set_cons_zero, List.set_cons_succ]; rfl)
                  · skip
                    intro s wc hS
                    refine norm_ (a' := ?_) ?_ ?_
                    rotate_left
                    · simp only [putAll, Act.put, List.setIfInBounds_toArray, List.set_cons_zero, List.set_cons_succ]
                      rfl
                    refine three_ (i := 5) (j := 6) (k := 7) (Ni := some 17) (Nj := some 7) (Nk := some 8) #[true, true, true, true, true, true, false, false, false, false] #[true, true, true, true, true, false, true, false, false, false] #[true, true, true, true, true, false, false, true, false, false] rfl rfl rfl rfl rfl rfl (by kernel_rfl) (by decide) (by decide) (by decide) (fun K hK => ?_) (fun K hK => ?_) (fun K hK => ?_)
                    · skip
                      refine call_ 19 _ (by rfl) rfl (by go_simp; rfl) ?_
                      refine (return_calls c _).mono ?_
                      rintro e wn ⟨rfl, hB⟩
                      rw [HR.out]
                      refine ⟨_, rfl, ?_⟩
                      refine hK.out _ _ (below_step hS hB) (fun hs => ?_)
                      refine norm_ ?_ (hJ3_5 (s.1, s.2) wn (below_step hS hB))
                      first | (simp only [putAll, Act.put, List.setIfInBounds_toArray, List.set_cons_zero, List.set_cons_succ]; done) | (simp only [putAll, Act.put, List.setIfInBounds_toArray, List.set_cons_zero, List.set_cons_succ]; rfl)
                    · skip
                      refine box_step (by rfl) (N := 7) rfl (cs := vc zc) (t := 31) (by go_simp; rfl) ?_
                      intro gn hgn wn hbn hB
                      subst hgn
                      refine hK.out _ _ (below_step hS hB) (fun hs => ?_)
                      refine norm_ ?_ (hJ3_6 (wc.heap.size, s.2) wn ⟨below_step hS hB, ⟨hS.size, hbn⟩⟩)
                      first | (simp only [putAll, Act.put, List.setIfInBounds_toArray, List.set_cons_zero, List.set_cons_succ]; done) | (simp only [putAll, Act.put, List.setIfInBounds_toArray, List.set_cons_zero, List.set_cons_succ]; rfl)
                    · skip
                      refine box_step (by rfl) (N := 8) rfl (cs := vc zc) (t := 31) (by go_simp; rfl) ?_
                      intro gn hgn wn hbn hB
                      subst hgn
                      refine hK.out _ _ (below_step hS hB) (fun hs => ?_)
                      refine norm_ ?_ (hJ3_7 (s.1, wc.heap.size) wn ⟨below_step hS hB, ⟨hS.size, hbn⟩⟩)
                      first | (simp only [putAll, Act.put, List.setIfInBounds_toArray, List.set_cons_zero, List.set_cons_succ]; done) | (simp only [putAll, Act.put, List.setIfInBounds_toArray, List.set_cons_zero, List.set_cons_succ]; rfl)
                · skip
                  rintro s wc ⟨hS, ⟨hg6, hb6⟩, ⟨hg7, hb7⟩, hne⟩
                  refine norm_ (a' := ?_) ?_ ?_
                  rotate_left
                  · simp only [putAll, Act.put, List.setIfInBounds_toArray, List.set_cons_zero, List.set_cons_succ]
                    rfl
                  refine one_ (i := 3) (N := some 15) #[true, true, true, true, true, false, true, true, false, false] rfl rfl (by kernel_rfl) (by decide) (fun K hK => ?_)
                  refine call_ 17 _ (by rfl) rfl (by go_simp; rfl) ?_
                  refine (enter_calls c n tv _ hf.st.1 hf.st.2).mono ?_
                  rintro e wn ⟨rfl, hB⟩
                  rw [HD.out]
                  refine ⟨_, rfl, ?_⟩
                  refine hK.out _ _ (below_step hS hB) (fun hs => ?_)
                  refine norm_ ?_ (hJ3_6_7 (s.1, s.2) wn ⟨below_step hS hB, ⟨hg6, blk_below hb6 hB⟩, ⟨hg7, blk_below hb7 hB⟩, hne⟩)
                  first | (simp only [putAll, Act.put, List.setIfInBounds_toArray, List.set_cons_zero, List.set_cons_succ]; done) | (simp only [putAll, Act.put, List.setIfInBounds_toArray, List.set_cons_zero, List.set_cons_succ]; rfl)
              · skip
                rintro s wc ⟨hS, ⟨hg7, hb7⟩⟩
                refine norm_ (a' := ?_) ?_ ?_
                rotate_left
                · simp only [putAll, Act.put, List.setIfInBounds_toArray, List.set_cons_zero, List.set_cons_succ]
                  rfl
                refine two_ (i := 5) (j := 6) (Ni := some 17) (Nj := some 7) #[true, true, true, true, true, true, false, true, false, false] #[true, true, true, true, true, false, true, true, false, false] rfl rfl rfl rfl (by kernel_rfl) (by decide) (by decide) (fun K hK => ?_) (fun K hK => ?_)
                · skip
                  refine call_ 19 _ (by rfl) rfl (by go_simp; rfl) ?_
                  refine (return_calls c _).mono ?_
                  rintro e wn ⟨rfl, hB⟩
                  rw [HR.out]
                  refine ⟨_, rfl, ?_⟩
                  refine hK.out _ _ (below_step hS hB) (fun hs => ?_)
                  refine norm_ ?_ (hJ3_5_7 (s.1, s.2) wn ⟨below_step hS hB, ⟨hg7, blk_below hb7 hB⟩⟩)
                  first | (simp only [putAll, Act.put, List.setIfInBounds_toArray, List.set_cons_zero, List.set_cons_succ]; done) | (simp only [putAll, Act.put, List.setIfInBounds_toArray, List.set_cons_zero, List.set_cons_succ]; rfl)
                · skip
                  refine box_step (by rfl) (N := 7) rfl (cs := vc zc) (t := 31) (by go_simp; rfl) ?_
                  intro gn hgn wn hbn hB
                  subst hgn
                  refine hK.out _ _ (below_step hS hB) (fun hs => ?_)
                  refine norm_ ?_ (hJ3_6_7 (wc.heap.size, s.2) wn ⟨below_step hS hB, ⟨hS.size, hbn⟩, ⟨hg7, blk_below hb7 hB⟩, (show _ ≠ _ from (fun h => by have := blk_lt hb7; simp only at h; omega))⟩)
                  first | (simp only [putAll, Act.put, List.setIfInBounds_toArray, List.set_cons_zero, List.set_cons_succ]; done) | (simp only [putAll, Act.put, List.setIfInBounds_toArray, List.set_cons_zero, List.set_cons_succ]; rfl)
            · skip
              rintro s wc ⟨hS, ⟨hg6, hb6⟩⟩
              refine norm_ (a' := ?_) ?_ ?_
              rotate_left
              · simp only [putAll, Act.put, List.setIfInBounds_toArray, List.set_cons_zero, List.set_cons_succ]
                rfl
              refine two_ (i := 5) (j := 7) (Ni := some 17) (Nj := some 8) #[true, true, true, true, true, true, true, false, false, false] #[true, true, true, true, true, false, true, true, false, false] rfl rfl rfl rfl (by kernel_rfl) (by decide) (by decide) (fun K hK => ?_) (fun K hK => ?_)
              · skip
                refine call_ 19 _ (by rfl) rfl (by go_simp; rfl) ?_
                refine (return_calls c _).mono ?_
                rintro e wn ⟨rfl, hB⟩
                rw [HR.out]
                refine ⟨_, rfl, ?_⟩
                refine hK.out _ _ (below_step hS hB) (fun hs => ?_)
                refine norm_ ?_ (hJ3_5_6 (s.1, s.2) wn ⟨below_step hS hB, ⟨hg6, blk_below hb6 hB⟩⟩)
                first | (simp only [putAll, Act.put, List.setIfInBounds_toArray, List.set_cons_zero, List.set_cons_succ]; done) | (simp only [putAll, Act.put, List.setIfInBounds_toArray, List.set_cons_zero, List.set_cons_succ]; rfl)
              · skip
                refine box_step (by rfl) (N := 8) rfl (cs := vc zc) (t := 31) (by go_simp; rfl) ?_
                intro gn hgn wn hbn hB
                subst hgn
                refine hK.out _ _ (below_step hS hB) (fun hs => ?_)
                refine norm_ ?_ (hJ3_6_7 (s.1, wc.heap.size) wn ⟨below_step hS hB, ⟨hg6, blk_below hb6 hB⟩, ⟨hS.size, hbn⟩, (show _ ≠ _ from (fun h => by have := blk_lt hb6; simp only at h; omega))⟩)
                first | (simp only [putAll, Act.put, List.setIfInBounds_toArray, List.set_cons_zero, List.set_cons_succ]; done) | (simp only [putAll, Act.put, List.setIfInBounds_toArray, List.set_cons_zero, List.set_cons_succ]; rfl)
          · skip
            intro s wc hS
            refine norm_ (a' := ?_) ?_ ?_
            rotate_left
            · simp only [putAll, Act.put, List.setIfInBounds_toArray, List.set_cons_zero, List.set_cons_succ]
              rfl
            refine two_ (i := 6) (j := 7) (Ni := some 7) (Nj := some 8) #[true, true, true, true, true, true, true, false, false, false] #[true, true, true, true, true, true, false, true, false, false] rfl rfl rfl rfl (by kernel_rfl) (by decide) (by decide) (fun K hK => ?_) (fun K hK => ?_)
            · skip
              refine box_step (by rfl) (N := 7) rfl (cs := vc zc) (t := 31) (by go_simp; rfl) ?_
              intro gn hgn wn hbn hB
              subst hgn
              refine hK.out _ _ (below_step hS hB) (fun hs => ?_)
              refine norm_ ?_ (hJ3_5_6 (wc.heap.size, s.2) wn ⟨below_step hS hB, ⟨hS.size, hbn⟩⟩)
              first | (simp only [putAll, Act.put, List.setIfInBounds_toArray, List.set_cons_zero, List.set_cons_succ]; done) | (simp only [putAll, Act.put, List.setIfInBounds_toArray, List.set_cons_zero, List.set_cons_succ]; rfl)
            · skip
              refine box_step (by rfl) (N := 8) rfl (cs := vc zc) (t := 31) (by go_simp; rfl) ?_
              intro gn hgn wn hbn hB
              subst hgn
              refine hK.out _ _ (below_step hS hB) (fun hs => ?_)
              refine norm_ ?_ (hJ3_5_7 (s.1, wc.heap.size) wn ⟨below_step hS hB, ⟨hS.size, hbn⟩⟩)
              first | (simp only [putAll, Act.put, List.setIfInBounds_toArray, List.set_cons_zero, List.set_cons_succ]; done) | (simp only [putAll, Act.put, List.setIfInBounds_toArray, List.set_cons_zero, List.set_cons_succ]; rfl)
        · skip
          rintro s wc ⟨hS, ⟨hg6, hb6⟩, ⟨hg7, hb7⟩, hne⟩
          refine norm_ (a' := ?_) ?_ ?_
          rotate_left
          · simp only [putAll, Act.put, List.setIfInBounds_toArray, List.set_cons_zero, List.set_cons_succ]
            rfl
          refine one_ (i := 5) (N := some 17) #[true, true, true, true, true, true, true, true, false, false] rfl rfl (by kernel_rfl) (by decide) (fun K hK => ?_)
          refine call_ 19 _ (by rfl) rfl (by go_simp; rfl) ?_
          refine (return_calls c _).mono ?_
          rintro e wn ⟨rfl, hB⟩
          rw [HR.out]
          refine ⟨_, rfl, ?_⟩
          refine hK.out _ _ (below_step hS hB) (fun hs => ?_)
          refine norm_ ?_ (hJ3_5_6_7 (s.1, s.2) wn ⟨below_step hS hB, ⟨hg6, blk_below hb6 hB⟩, ⟨hg7, blk_below hb7 hB⟩, hne⟩)
          first | (simp only [putAll, Act.put, List.setIfInBounds_toArray, List.set_cons_zero, List.set_cons_succ]; done) | (simp only [putAll, Act.put, List.setIfInBounds_toArray, List.set_cons_zero, List.set_cons_succ]; rfl)
      · skip
        rintro s wc ⟨hS, ⟨hg7, hb7⟩⟩
        refine norm_ (a' := ?_) ?_ ?_
        rotate_left
        · simp only [putAll, Act.put, List.setIfInBounds_toArray, List.set_cons_zero, List.set_cons_succ]
          rfl
        refine one_ (i := 6) (N := some 7) #[true, true, true, true, true, true, true, true, false, false] rfl rfl (by kernel_rfl) (by decide) (fun K hK => ?_)
        refine box_step (by rfl) (N := 7) rfl (cs := vc zc) (t := 31) (by go_simp; rfl) ?_
        intro gn hgn wn hbn hB
        subst hgn
        refine hK.out _ _ (below_step hS hB) (fun hs => ?_)
        refine norm_ ?_ (hJ3_5_6_7 (wc.heap.size, s.2) wn ⟨below_step hS hB, ⟨hS.size, hbn⟩, ⟨hg7, blk_below hb7 hB⟩, (show _ ≠ _ from (fun h => by have := blk_lt hb7; simp only at h; omega))⟩)
        first | (simp only [putAll, Act.put, List.setIfInBounds_toArray, List.set_cons_zero, List.set_cons_succ]; done) | (simp only [putAll, Act.put, List.setIfInBounds_toArray, List.set_cons_zero, List.set_cons_succ]; rfl)
    · skip
      rintro s wc ⟨hS, ⟨hg6, hb6⟩⟩
      refine norm_ (a' := ?_) ?_ ?_
      rotate_left
      · simp only [putAll, Act.put, List.setIfInBounds_toArray, List.set_cons_zero, List.set_cons_succ]
        rfl
      refine one_ (i := 7) (N := some 8) #[true, true, true, true, true, true, true, true, false, false] rfl rfl (by kernel_rfl) (by decide) (fun K hK => ?_)
      refine box_step (by rfl) (N := 8) rfl (cs := vc zc) (t := 31) (by go_simp; rfl) ?_
      intro gn hgn wn hbn hB
      subst hgn
      refine hK.out _ _ (below_step hS hB) (fun hs => ?_)
      refine norm_ ?_ (hJ3_5_6_7 (s.1, wc.heap.size) wn ⟨below_step hS hB, ⟨hg6, blk_below hb6 hB⟩, ⟨hS.size, hbn⟩, (show _ ≠ _ from (fun h => by have := blk_lt hb6; simp only at h; omega))⟩)
      first | (simp only [putAll, Act.put, List.setIfInBounds_toArray, List.set_cons_zero, List.set_cons_succ]; done) | (simp only [putAll, Act.put, List.setIfInBounds_toArray, List.set_cons_zero, List.set_cons_succ]; rfl)
  · skip
    rintro s wc ⟨hS, ⟨hg6, hb6⟩, ⟨hg7, hb7⟩, hne⟩
    refine norm_ (a' := ?_) ?_ ?_
    rotate_left
    · simp only [putAll, Act.put, List.setIfInBounds_toArray, List.set_cons_zero, List.set_cons_succ]
      rfl
    obtain ⟨g7, g8⟩ := s
    simp only at hg6 hb6 hg7 hb7 hne ⊢
    refine one_ (i := 8) (N := none) #[true, true, true, true, true, true, true, true, true, false] rfl rfl (by kernel_rfl) (by decide) (fun K hK => ?_)
    refine st_step (by rfl) _ _ rfl g7 d rfl rfl zc hb6 ?_
    refine hK.out _ _ (below_rowb hS hg6 (vc d)) (fun hs => ?_)
    clear hK K
    have hb7' := row_far hb7 (vc d) (Ne.symm hne)
    have hb6' := row_new hb6 (vc d)
    refine norm_ (a' := ?_) ?_ ?_
    rotate_left
    · show Act.put _ none _ = _
      simp only [Act.put]
      rfl
    refine one_ (i := 9) (N := none) #[true, true, true, true, true, true, true, true, true, true] rfl rfl (by kernel_rfl) (by decide) (fun K hK => ?_)
    refine st_step (by rfl) _ _ rfl g8 r rfl rfl zc hb7' ?_
    refine hK.out _ _ (below_rowb hs hg7 (vc r)) (fun hs2 => ?_)
    clear hK K
    refine norm_ (a' := ?_) ?_ ?_
    rotate_left
    · show Act.put _ none _ = _
      simp only [Act.put]
      rfl
    refine done_ (by kernel_rfl) ?_
    have DF := Aside0.mk (row_far hb6' (vc r) hne)
    have RF := Aside0.mk (row_new hb7' (vc r))
    have HF := Aside0.mk (below_step H1.out hs2)
    have BF := Aside0.mk (blk_below B1.out hs2)
    generalize hwf : (wc.setRow g7 (vc d)).setRow g8 (vc r) = wf at *
    clear hwf hs hs2 hb6' hb7' hb6 hb7 hS Hs
    have c33 := (blk_cell BF.out 33).trans (get33 c)
    go_wp2_with (first | refine ld rfl _ rfl g7 rfl d (by exact DF.out) ?_ | refine ld rfl _ rfl w.heap.size rfl c (by exact BF.out) ?_ | refine ldg rfl _ rfl g8 rfl r (by exact RF.out) ?_ | refine ldg rfl _ rfl w.heap.size rfl c (by exact BF.out) ?_)
    go_ret
    exact ⟨rfl, HF.out⟩
theorem halts_trap (hf : Wf c) (HD : Aside0 (enterC c n tv = d)) (HR : Aside0 (returnC c = r)) (p0 : (c.ha == 0) = true) (p0n : (c.ha != 0) = false) (p1 : (Go.bits .and .u32 c.st 4 == 0) = false) (p1n : (Go.bits .and .u32 c.st 4 != 0) = true) (sd33 : d.ha = 2) (sd34 : d.id = false) (r0 : regsEq d c = true) (r1 : ctlEq d c = true) :
    Calls Try.prog 7 #[.agg (vc c), .int .i64 n, .int .u32 tv] w fun e w' => e = .returned (.bool true) ∧ Below w.heap.size w w' := by
  go_enter Try.func7, Try.ntmps7
  go_wp2_with fail
  refine (works_calls _).mono ?_
  rintro e w1 ⟨rfl, hB⟩
  have B1 := Aside0.mk ((hB.block w.heap.size (by simp)).trans (heap_alloc_new w _))
  have H1 := Aside0.mk ((below_alloc (Below.refl w.heap.size w) _).trans (hB.mono (by simp)))
  have l1 := blk_lt B1.out
  clear hB
  go_wp2_with fail
  have Hs0 := Aside0.mk (below_drew1 (Below.refl w1.heap.size w1))
  refine start_ (n := 10) (S := fun w' => Below w1.heap.size w1 w') (ds := []) #[false, false, false, false, false, false, false, false, false, false] (by kernel_rfl) rfl rfl Hs0.out (fun hs => ?_)
  have Hs := Aside0.mk hs
  clear hs Hs0
  refine take_ (i := 0) (N := some 12) (v := .agg (vc c)) #[true, false, false, false, false, false, false, false, false, false] rfl rfl (by kernel_rfl) (fun _ _ _ h => h) (Or.inl ⟨by rfl, ?_⟩) ?_ (a' := ?_) ?_ ?_
  · intro w' hS
    exact ld_y _ rfl w.heap.size rfl c (blk_below B1.out hS)
  · exact Hs.out
  rotate_left
  · simp only [Act.put, List.setIfInBounds_toArray, List.set_cons_zero, List.set_cons_succ]
    rfl
  refine take_ (i := 4) (N := some 16) (v := .agg (vc c)) #[true, false, false, false, true, false, false, false, false, false] rfl rfl (by kernel_rfl) (fun _ _ _ h => h) (Or.inl ⟨by rfl, ?_⟩) ?_ (a' := ?_) ?_ ?_
  · intro w' hS
    exact ld_y _ rfl w.heap.size rfl c (blk_below B1.out hS)
  · exact Hs.out
  rotate_left
  · simp only [Act.put, List.setIfInBounds_toArray, List.set_cons_zero, List.set_cons_succ]
    rfl
  refine pure_ (i := 1) (N := some 13) (v := ?_) (a' := ?_) #[true, true, false, false, true, false, false, false, false, false] rfl rfl (by kernel_rfl) (fun _ _ _ h => h) (Or.inl ⟨by rfl, ?_⟩) ?_ ?_
  rotate_left
  · intro w'
    go_simp
    with_reducible rfl
  rotate_left
  · simp only [Act.put, List.setIfInBounds_toArray, List.set_cons_zero, List.set_cons_succ]
    rfl
  refine pure_ (i := 2) (N := some 14) (v := ?_) (a' := ?_) #[true, true, true, false, true, false, false, false, false, false] rfl rfl (by kernel_rfl) (fun _ _ _ h => h) (Or.inl ⟨by rfl, ?_⟩) ?_ ?_
  rotate_left
  · intro w'
    go_simp
    with_reducible rfl
  rotate_left
  · simp only [Act.put, List.setIfInBounds_toArray, List.set_cons_zero, List.set_cons_succ]
    rfl
  refine join_ (σ := Nat × Nat) 2 #[true, true, true, true, true, true, true, true, false, false] (fun s => [(15, Value.agg (vc d)), (17, Value.agg (vc r)), (7, Value.pointer (some ⟨s.1, 0, none⟩)), (8, Value.pointer (some ⟨s.2, 0, none⟩))]) (fun s w' => (Below w1.heap.size w1 w') ∧ (w1.heap.size ≤ s.1 ∧ w'.heap[s.1]? = some (.cells (vc zc) 31 (0, 0))) ∧ (w1.heap.size ≤ s.2 ∧ w'.heap[s.2]? = some (.cells (vc zc) 31 (0, 0))) ∧ (s.1 ≠ s.2)) ?_ ?_
  rotate_left
  · intro hJ3_5_6_7
    refine join_ (σ := Nat × Nat) 3 #[true, true, true, true, true, true, true, false, false, false] (fun s => [(15, Value.agg (vc d)), (17, Value.agg (vc r)), (7, Value.pointer (some ⟨s.1, 0, none⟩))]) (fun s w' => (Below w1.heap.size w1 w') ∧ (w1.heap.size ≤ s.1 ∧ w'.heap[s.1]? = some (.cells (vc zc) 31 (0, 0)))) ?_ ?_
    rotate_left
    · intro hJ3_5_6
      refine join_ (σ := Nat × Nat) 3 #[true, true, true, true, true, true, false, true, false, false] (fun s => [(15, Value.agg (vc d)), (17, Value.agg (vc r)), (8, Value.pointer (some ⟨s.2, 0, none⟩))]) (fun s w' => (Below w1.heap.size w1 w') ∧ (w1.heap.size ≤ s.2 ∧ w'.heap[s.2]? = some (.cells (vc zc) 31 (0, 0)))) ?_ ?_
      rotate_left
      · intro hJ3_5_7
        refine join_ (σ := Nat × Nat) 3 #[true, true, true, true, true, false, true, true, false, false] (fun s => [(15, Value.agg (vc d)), (7, Value.pointer (some ⟨s.1, 0, none⟩)), (8, Value.pointer (some ⟨s.2, 0, none⟩))]) (fun s w' => (Below w1.heap.size w1 w') ∧ (w1.heap.size ≤ s.1 ∧ w'.heap[s.1]? = some (.cells (vc zc) 31 (0, 0))) ∧ (w1.heap.size ≤ s.2 ∧ w'.heap[s.2]? = some (.cells (vc zc) 31 (0, 0))) ∧ (s.1 ≠ s.2)) ?_ ?_
        rotate_left
        · intro hJ3_6_7
          refine join_ (σ := Nat × Nat) 4 #[true, true, true, true, true, true, false, false, false, false] (fun s => [(15, Value.agg (vc d)), (17, Value.agg (vc r))]) (fun s w' => (Below w1.heap.size w1 w')) ?_ ?_
          rotate_left
          · intro hJ3_5
            refine join_ (σ := Nat × Nat) 4 #[true, true, true, true, true, false, true, false, false, false] (fun s => [(15, Value.agg (vc d)), (7, Value.pointer (some ⟨s.1, 0, none⟩))]) (fun s w' => (Below w1.heap.size w1 w') ∧ (w1.heap.size ≤ s.1 ∧ w'.heap[s.1]? = some (.cells (vc zc) 31 (0, 0)))) ?_ ?_
            rotate_left
            · intro hJ3_6
              refine join_ (σ := Nat × Nat) 4 #[true, true, true, true, true, false, false, true, false, false] (fun s => [(15, Value.agg (vc d)), (8, Value.pointer (some ⟨s.2, 0, none⟩))]) (fun s w' => (Below w1.heap.size w1 w') ∧ (w1.heap.size ≤ s.2 ∧ w'.heap[s.2]? = some (.cells (vc zc) 31 (0, 0)))) ?_ ?_
              rotate_left
              · intro hJ3_7
                refine join_ (σ := Nat × Nat) 4 #[true, true, true, false, true, false, true, true, false, false] (fun s => [(7, Value.pointer (some ⟨s.1, 0, none⟩)), (8, Value.pointer (some ⟨s.2, 0, none⟩))]) (fun s w' => (Below w1.heap.size w1 w') ∧ (w1.heap.size ≤ s.1 ∧ w'.heap[s.1]? = some (.cells (vc zc) 31 (0, 0))) ∧ (w1.heap.size ≤ s.2 ∧ w'.heap[s.2]? = some (.cells (vc zc) 31 (0, 0))) ∧ (s.1 ≠ s.2)) ?_ ?_
                rotate_left
                · intro hJ6_7
                  refine join_ (σ := Nat × Nat) 5 #[true, true, true, true, true, false, false, false, false, false] (fun s => [(15, Value.agg (vc d))]) (fun s w' => (Below w1.heap.size w1 w')) ?_ ?_
                  rotate_left
                  · intro hJ3
                    refine join_ (σ := Nat × Nat) 5 #[true, true, true, false, true, false, true, false, false, false] (fun s => [(7, Value.pointer (some ⟨s.1, 0, none⟩))]) (fun s w' => (Below w1.heap.size w1 w') ∧ (w1.heap.size ≤ s.1 ∧ w'.heap[s.1]? = some (.cells (vc zc) 31 (0, 0)))) ?_ ?_
                    rotate_left
                    · intro hJ6
                      refine join_ (σ := Nat × Nat) 5 #[true, true, true, false, true, false, false, true, false, false] (fun s => [(8, Value.pointer (some ⟨s.2, 0, none⟩))]) (fun s w' => (Below w1.heap.size w1 w') ∧ (w1.heap.size ≤ s.2 ∧ w'.heap[s.2]? = some (.cells (vc zc) 31 (0, 0)))) ?_ ?_
                      rotate_left
                      · intro hJ7
                        have hS := Hs.out
                        generalize w1.drew = wc at *
                        refine three_ (i := 3) (j := 6) (k := 7) (Ni := some 15) (Nj := some 7) (Nk := some 8) #[true, true, true, true, true, false, false, false, false, false] #[true, true, true, false, true, false, true, false, false, false] #[true, true, true, false, true, false, false, true, false, false] rfl rfl rfl rfl rfl rfl (by kernel_rfl) (by decide) (by decide) (by decide) (fun K hK => ?_) (fun K hK => ?_) (fun K hK => ?_)
                        · skip
                          refine call_ 17 _ (by rfl) rfl (by go_simp; rfl) ?_
                          refine (enter_calls c n tv _ hf.st.1 hf.st.2).mono ?_
                          rintro e wn ⟨rfl, hB⟩
                          rw [HD.out]
                          refine ⟨_, rfl, ?_⟩
                          refine hK.out _ _ (below_step hS hB) (fun hs => ?_)
                          refine norm_ ?_ (hJ3 (0, 0) wn (below_step hS hB))
                          first | (simp only [putAll, Act.put, List.setIfInBounds_toArray, List.set_cons_zero, List.set_cons_succ]; done) | (simp only [putAll, Act.put, List.setIfInBounds_toArray, List.set_cons_zero, List.set_cons_succ]; rfl)
                        · skip
                          refine box_step (by rfl) (N := 7) rfl (cs := vc zc) (t := 31) (by go_simp; rfl) ?_
                          intro gn hgn wn hbn hB
                          subst hgn
                          refine hK.out _ _ (below_step hS hB) (fun hs => ?_)
                          refine norm_ ?_ (hJ6 (wc.heap.size, 0) wn ⟨below_step hS hB, ⟨hS.size, hbn⟩⟩)
                          first | (simp only [putAll, Act.put, List.setIfInBounds_toArray, List.set_cons_zero, List.set_cons_succ]; done) | (simp only [putAll, Act.put, List.setIfInBounds_toArray, List.set_cons_zero, List.set_cons_succ]; rfl)
                        · skip
                          refine box_step (by rfl) (N := 8) rfl (cs := vc zc) (t := 31) (by go_simp; rfl) ?_
                          intro gn hgn wn hbn hB
                          subst hgn
                          refine hK.out _ _ (below_step hS hB) (fun hs => ?_)
                          refine norm_ ?_ (hJ7 (0, wc.heap.size) wn ⟨below_step hS hB, ⟨hS.size, hbn⟩⟩)
                          first | (simp only [putAll, Act.put, List.setIfInBounds_toArray, List.set_cons_zero, List.set_cons_succ]; done) | (simp only [putAll, Act.put, List.setIfInBounds_toArray, List.set_cons_zero, List.set_cons_succ]; rfl)
                      · skip
                        rintro s wc ⟨hS, ⟨hg7, hb7⟩⟩
                        refine norm_ (a' := ?_) ?_ ?_
                        rotate_left
                        · simp only [putAll, Act.put, List.setIfInBounds_toArray, List.set_cons_zero, List.set_cons_succ]
                          rfl
                        refine two_ (i := 3) (j := 6) (Ni := some 15) (Nj := some 7) #[true, true, true, true, true, false, false, true, false, false] #[true, true, true, false, true, false, true, true, false, false] rfl rfl rfl rfl (by kernel_rfl) (by decide) (by decide) (fun K hK => ?_) (fun K hK => ?_)
                        · skip
                          refine call_ 17 _ (by rfl) rfl (by go_simp; rfl) ?_
                          refine (enter_calls c n tv _ hf.st.1 hf.st.2).mono ?_
                          rintro e wn ⟨rfl, hB⟩
                          rw [HD.out]
                          refine ⟨_, rfl, ?_⟩
                          refine hK.out _ _ (below_step hS hB) (fun hs => ?_)
                          refine norm_ ?_ (hJ3_7 (s.1, s.2) wn ⟨below_step hS hB, ⟨hg7, blk_below hb7 hB⟩⟩)
                          first | (simp only [putAll, Act.put, List.setIfInBounds_toArray, List.set_cons_zero, List.set_cons_succ]; done) | (simp only [putAll, Act.put, List.setIfInBounds_toArray, List.set_cons_zero, List.set_cons_succ]; rfl)
                        · skip
                          refine box_step (by rfl) (N := 7) rfl (cs := vc zc) (t := 31) (by go_simp; rfl) ?_
                          intro gn hgn wn hbn hB
                          subst hgn
                          refine hK.out _ _ (below_step hS hB) (fun hs => ?_)
                          refine norm_ ?_ (hJ6_7 (wc.heap.size, s.2) wn ⟨below_step hS hB, ⟨hS.size, hbn⟩, ⟨hg7, blk_below hb7 hB⟩, (show _ ≠ _ from (fun h => by have := blk_lt hb7; simp only at h; omega))⟩)
                          first | (simp only [putAll, Act.put, List.setIfInBounds_toArray, List.set_cons_zero, List.set_cons_succ]; done) | (simp only [putAll, Act.put, List.setIfInBounds_toArray, List.set_cons_zero, List.set_cons_succ]; rfl)
                    · skip
                      rintro s wc ⟨hS, ⟨hg6, hb6⟩⟩
                      refine norm_ (a' := ?_) ?_ ?_
                      rotate_left
                      · simp only [putAll, Act.put, List.setIfInBounds_toArray, List.set_cons_zero, List.set_cons_succ]
                        rfl
                      refine two_ (i := 3) (j := 7) (Ni := some 15) (Nj := some 8) #[true, true, true, true, true, false, true, false, false, false] #[true, true, true, false, true, false, true, true, false, false] rfl rfl rfl rfl (by kernel_rfl) (by decide) (by decide) (fun K hK => ?_) (fun K hK => ?_)
                      · skip
                        refine call_ 17 _ (by rfl) rfl (by go_simp; rfl) ?_
                        refine (enter_calls c n tv _ hf.st.1 hf.st.2).mono ?_
                        rintro e wn ⟨rfl, hB⟩
                        rw [HD.out]
                        refine ⟨_, rfl, ?_⟩
                        refine hK.out _ _ (below_step hS hB) (fun hs => ?_)
                        refine norm_ ?_ (hJ3_6 (s.1, s.2) wn ⟨below_step hS hB, ⟨hg6, blk_below hb6 hB⟩⟩)
                        first | (simp only [putAll, Act.put, List.setIfInBounds_toArray, List.set_cons_zero, List.set_cons_succ]; done) | (simp only [putAll, Act.put, List.setIfInBounds_toArray, List.set_cons_zero, List.set_cons_succ]; rfl)
                      · skip
                        refine box_step (by rfl) (N := 8) rfl (cs := vc zc) (t := 31) (by go_simp; rfl) ?_
                        intro gn hgn wn hbn hB
                        subst hgn
                        refine hK.out _ _ (below_step hS hB) (fun hs => ?_)
                        refine norm_ ?_ (hJ6_7 (s.1, wc.heap.size) wn ⟨below_step hS hB, ⟨hg6, blk_below hb6 hB⟩, ⟨hS.size, hbn⟩, (show _ ≠ _ from (fun h => by have := blk_lt hb6; simp only at h; omega))⟩)
                        first | (simp only [putAll, Act.put, List.setIfInBounds_toArray, List.set_cons_zero, List.set_cons_succ]; done) | (simp only [putAll, Act.put, List.setIfInBounds_toArray, List.set_cons_zero, List.set_cons_succ]; rfl)
                  · skip
                    intro s wc hS
                    refine norm_ (a' := ?_) ?_ ?_
                    rotate_left
                    · simp only [putAll, Act.put, List.setIfInBounds_toArray, List.set_cons_zero, List.set_cons_succ]
                      rfl
                    refine three_ (i := 5) (j := 6) (k := 7) (Ni := some 17) (Nj := some 7) (Nk := some 8) #[true, true, true, true, true, true, false, false, false, false] #[true, true, true, true, true, false, true, false, false, false] #[true, true, true, true, true, false, false, true, false, false] rfl rfl rfl rfl rfl rfl (by kernel_rfl) (by decide) (by decide) (by decide) (fun K hK => ?_) (fun K hK => ?_) (fun K hK => ?_)
                    · skip
                      refine call_ 19 _ (by rfl) rfl (by go_simp; rfl) ?_
                      refine (return_calls c _).mono ?_
                      rintro e wn ⟨rfl, hB⟩
                      rw [HR.out]
                      refine ⟨_, rfl, ?_⟩
                      refine hK.out _ _ (below_step hS hB) (fun hs => ?_)
                      refine norm_ ?_ (hJ3_5 (s.1, s.2) wn (below_step hS hB))
                      first | (simp only [putAll, Act.put, List.setIfInBounds_toArray, List.set_cons_zero, List.set_cons_succ]; done) | (simp only [putAll, Act.put, List.setIfInBounds_toArray, List.set_cons_zero, List.set_cons_succ]; rfl)
                    · skip
                      refine box_step (by rfl) (N := 7) rfl (cs := vc zc) (t := 31) (by go_simp; rfl) ?_
                      intro gn hgn wn hbn hB
                      subst hgn
                      refine hK.out _ _ (below_step hS hB) (fun hs => ?_)
                      refine norm_ ?_ (hJ3_6 (wc.heap.size, s.2) wn ⟨below_step hS hB, ⟨hS.size, hbn⟩⟩)
                      first | (simp only [putAll, Act.put, List.setIfInBounds_toArray, List.set_cons_zero, List.set_cons_succ]; done) | (simp only [putAll, Act.put, List.setIfInBounds_toArray, List.set_cons_zero, List.set_cons_succ]; rfl)
                    · skip
                      refine box_step (by rfl) (N := 8) rfl (cs := vc zc) (t := 31) (by go_simp; rfl) ?_
                      intro gn hgn wn hbn hB
                      subst hgn
                      refine hK.out _ _ (below_step hS hB) (fun hs => ?_)
                      refine norm_ ?_ (hJ3_7 (s.1, wc.heap.size) wn ⟨below_step hS hB, ⟨hS.size, hbn⟩⟩)
                      first | (simp only [putAll, Act.put, List.setIfInBounds_toArray, List.set_cons_zero, List.set_cons_succ]; done) | (simp only [putAll, Act.put, List.setIfInBounds_toArray, List.set_cons_zero, List.set_cons_succ]; rfl)
                · skip
                  rintro s wc ⟨hS, ⟨hg6, hb6⟩, ⟨hg7, hb7⟩, hne⟩
                  refine norm_ (a' := ?_) ?_ ?_
                  rotate_left
                  · simp only [putAll, Act.put, List.setIfInBounds_toArray, List.set_cons_zero, List.set_cons_succ]
                    rfl
                  refine one_ (i := 3) (N := some 15) #[true, true, true, true, true, false, true, true, false, false] rfl rfl (by kernel_rfl) (by decide) (fun K hK => ?_)
                  refine call_ 17 _ (by rfl) rfl (by go_simp; rfl) ?_
                  refine (enter_calls c n tv _ hf.st.1 hf.st.2).mono ?_
                  rintro e wn ⟨rfl, hB⟩
                  rw [HD.out]
                  refine ⟨_, rfl, ?_⟩
                  refine hK.out _ _ (below_step hS hB) (fun hs => ?_)
                  refine norm_ ?_ (hJ3_6_7 (s.1, s.2) wn ⟨below_step hS hB, ⟨hg6, blk_below hb6 hB⟩, ⟨hg7, blk_below hb7 hB⟩, hne⟩)
                  first | (simp only [putAll, Act.put, List.setIfInBounds_toArray, List.set_cons_zero, List.set_cons_succ]; done) | (simp only [putAll, Act.put, List.setIfInBounds_toArray, List.set_cons_zero, List.set_cons_succ]; rfl)
              · skip
                rintro s wc ⟨hS, ⟨hg7, hb7⟩⟩
                refine norm_ (a' := ?_) ?_ ?_
                rotate_left
                · simp only [putAll, Act.put, List.setIfInBounds_toArray, List.set_cons_zero, List.set_cons_succ]
                  rfl
                refine two_ (i := 5) (j := 6) (Ni := some 17) (Nj := some 7) #[true, true, true, true, true, true, false, true, false, false] #[true, true, true, true, true, false, true, true, false, false] rfl rfl rfl rfl (by kernel_rfl) (by decide) (by decide) (fun K hK => ?_) (fun K hK => ?_)
                · skip
                  refine call_ 19 _ (by rfl) rfl (by go_simp; rfl) ?_
                  refine (return_calls c _).mono ?_
                  rintro e wn ⟨rfl, hB⟩
                  rw [HR.out]
                  refine ⟨_, rfl, ?_⟩
                  refine hK.out _ _ (below_step hS hB) (fun hs => ?_)
                  refine norm_ ?_ (hJ3_5_7 (s.1, s.2) wn ⟨below_step hS hB, ⟨hg7, blk_below hb7 hB⟩⟩)
                  first | (simp only [putAll, Act.put, List.setIfInBounds_toArray, List.set_cons_zero, List.set_cons_succ]; done) | (simp only [putAll, Act.put, List.setIfInBounds_toArray, List.set_cons_zero, List.set_cons_succ]; rfl)
                · skip
                  refine box_step (by rfl) (N := 7) rfl (cs := vc zc) (t := 31) (by go_simp; rfl) ?_
                  intro gn hgn wn hbn hB
                  subst hgn
                  refine hK.out _ _ (below_step hS hB) (fun hs => ?_)
                  refine norm_ ?_ (hJ3_6_7 (wc.heap.size, s.2) wn ⟨below_step hS hB, ⟨hS.size, hbn⟩, ⟨hg7, blk_below hb7 hB⟩, (show _ ≠ _ from (fun h => by have := blk_lt hb7; simp only at h; omega))⟩)
                  first | (simp only [putAll, Act.put, List.setIfInBounds_toArray, List.set_cons_zero, List.set_cons_succ]; done) | (simp only [putAll, Act.put, List.setIfInBounds_toArray, List.set_cons_zero, List.set_cons_succ]; rfl)
            · skip
              rintro s wc ⟨hS, ⟨hg6, hb6⟩⟩
              refine norm_ (a' := ?_) ?_ ?_
              rotate_left
              · simp only [putAll, Act.put, List.setIfInBounds_toArray, List.set_cons_zero, List.set_cons_succ]
                rfl
              refine two_ (i := 5) (j := 7) (Ni := some 17) (Nj := some 8) #[true, true, true, true, true, true, true, false, false, false] #[true, true, true, true, true, false, true, true, false, false] rfl rfl rfl rfl (by kernel_rfl) (by decide) (by decide) (fun K hK => ?_) (fun K hK => ?_)
              · skip
                refine call_ 19 _ (by rfl) rfl (by go_simp; rfl) ?_
                refine (return_calls c _).mono ?_
                rintro e wn ⟨rfl, hB⟩
                rw [HR.out]
                refine ⟨_, rfl, ?_⟩
                refine hK.out _ _ (below_step hS hB) (fun hs => ?_)
                refine norm_ ?_ (hJ3_5_6 (s.1, s.2) wn ⟨below_step hS hB, ⟨hg6, blk_below hb6 hB⟩⟩)
                first | (simp only [putAll, Act.put, List.setIfInBounds_toArray, List.set_cons_zero, List.set_cons_succ]; done) | (simp only [putAll, Act.put, List.setIfInBounds_toArray, List.set_cons_zero, List.set_cons_succ]; rfl)
              · skip
                refine box_step (by rfl) (N := 8) rfl (cs := vc zc) (t := 31) (by go_simp; rfl) ?_
                intro gn hgn wn hbn hB
                subst hgn
                refine hK.out _ _ (below_step hS hB) (fun hs => ?_)
                refine norm_ ?_ (hJ3_6_7 (s.1, wc.heap.size) wn ⟨below_step hS hB, ⟨hg6, blk_below hb6 hB⟩, ⟨hS.size, hbn⟩, (show _ ≠ _ from (fun h => by have := blk_lt hb6; simp only at h; omega))⟩)
                first | (simp only [putAll, Act.put, List.setIfInBounds_toArray, List.set_cons_zero, List.set_cons_succ]; done) | (simp only [putAll, Act.put, List.setIfInBounds_toArray, List.set_cons_zero, List.set_cons_succ]; rfl)
          · skip
            intro s wc hS
            refine norm_ (a' := ?_) ?_ ?_
            rotate_left
            · simp only [putAll, Act.put, List.setIfInBounds_toArray, List.set_cons_zero, List.set_cons_succ]
              rfl
            refine two_ (i := 6) (j := 7) (Ni := some 7) (Nj := some 8) #[true, true, true, true, true, true, true, false, false, false] #[true, true, true, true, true, true, false, true, false, false] rfl rfl rfl rfl (by kernel_rfl) (by decide) (by decide) (fun K hK => ?_) (fun K hK => ?_)
            · skip
              refine box_step (by rfl) (N := 7) rfl (cs := vc zc) (t := 31) (by go_simp; rfl) ?_
              intro gn hgn wn hbn hB
              subst hgn
              refine hK.out _ _ (below_step hS hB) (fun hs => ?_)
              refine norm_ ?_ (hJ3_5_6 (wc.heap.size, s.2) wn ⟨below_step hS hB, ⟨hS.size, hbn⟩⟩)
              first | (simp only [putAll, Act.put, List.setIfInBounds_toArray, List.set_cons_zero, List.set_cons_succ]; done) | (simp only [putAll, Act.put, List.setIfInBounds_toArray, List.set_cons_zero, List.set_cons_succ]; rfl)
            · skip
              refine box_step (by rfl) (N := 8) rfl (cs := vc zc) (t := 31) (by go_simp; rfl) ?_
              intro gn hgn wn hbn hB
              subst hgn
              refine hK.out _ _ (below_step hS hB) (fun hs => ?_)
              refine norm_ ?_ (hJ3_5_7 (s.1, wc.heap.size) wn ⟨below_step hS hB, ⟨hS.size, hbn⟩⟩)
              first | (simp only [putAll, Act.put, List.setIfInBounds_toArray, List.set_cons_zero, List.set_cons_succ]; done) | (simp only [putAll, Act.put, List.setIfInBounds_toArray, List.set_cons_zero, List.set_cons_succ]; rfl)
        · skip
          rintro s wc ⟨hS, ⟨hg6, hb6⟩, ⟨hg7, hb7⟩, hne⟩
          refine norm_ (a' := ?_) ?_ ?_
          rotate_left
          · simp only [putAll, Act.put, List.setIfInBounds_toArray, List.set_cons_zero, List.set_cons_succ]
            rfl
          refine one_ (i := 5) (N := some 17) #[true, true, true, true, true, true, true, true, false, false] rfl rfl (by kernel_rfl) (by decide) (fun K hK => ?_)
          refine call_ 19 _ (by rfl) rfl (by go_simp; rfl) ?_
          refine (return_calls c _).mono ?_
          rintro e wn ⟨rfl, hB⟩
          rw [HR.out]
          refine ⟨_, rfl, ?_⟩
          refine hK.out _ _ (below_step hS hB) (fun hs => ?_)
          refine norm_ ?_ (hJ3_5_6_7 (s.1, s.2) wn ⟨below_step hS hB, ⟨hg6, blk_below hb6 hB⟩, ⟨hg7, blk_below hb7 hB⟩, hne⟩)
          first | (simp only [putAll, Act.put, List.setIfInBounds_toArray, List.set_cons_zero, List.set_cons_succ]; done) | (simp only [putAll, Act.put, List.setIfInBounds_toArray, List.set_cons_zero, List.set_cons_succ]; rfl)
      · skip
        rintro s wc ⟨hS, ⟨hg7, hb7⟩⟩
        refine norm_ (a' := ?_) ?_ ?_
        rotate_left
        · simp only [putAll, Act.put, List.setIfInBounds_toArray, List.set_cons_zero, List.set_cons_succ]
          rfl
        refine one_ (i := 6) (N := some 7) #[true, true, true, true, true, true, true, true, false, false] rfl rfl (by kernel_rfl) (by decide) (fun K hK => ?_)
        refine box_step (by rfl) (N := 7) rfl (cs := vc zc) (t := 31) (by go_simp; rfl) ?_
        intro gn hgn wn hbn hB
        subst hgn
        refine hK.out _ _ (below_step hS hB) (fun hs => ?_)
        refine norm_ ?_ (hJ3_5_6_7 (wc.heap.size, s.2) wn ⟨below_step hS hB, ⟨hS.size, hbn⟩, ⟨hg7, blk_below hb7 hB⟩, (show _ ≠ _ from (fun h => by have := blk_lt hb7; simp only at h; omega))⟩)
        first | (simp only [putAll, Act.put, List.setIfInBounds_toArray, List.set_cons_zero, List.set_cons_succ]; done) | (simp only [putAll, Act.put, List.setIfInBounds_toArray, List.set_cons_zero, List.set_cons_succ]; rfl)
    · skip
      rintro s wc ⟨hS, ⟨hg6, hb6⟩⟩
      refine norm_ (a' := ?_) ?_ ?_
      rotate_left
      · simp only [putAll, Act.put, List.setIfInBounds_toArray, List.set_cons_zero, List.set_cons_succ]
        rfl
      refine one_ (i := 7) (N := some 8) #[true, true, true, true, true, true, true, true, false, false] rfl rfl (by kernel_rfl) (by decide) (fun K hK => ?_)
      refine box_step (by rfl) (N := 8) rfl (cs := vc zc) (t := 31) (by go_simp; rfl) ?_
      intro gn hgn wn hbn hB
      subst hgn
      refine hK.out _ _ (below_step hS hB) (fun hs => ?_)
      refine norm_ ?_ (hJ3_5_6_7 (s.1, wc.heap.size) wn ⟨below_step hS hB, ⟨hg6, blk_below hb6 hB⟩, ⟨hS.size, hbn⟩, (show _ ≠ _ from (fun h => by have := blk_lt hb6; simp only at h; omega))⟩)
      first | (simp only [putAll, Act.put, List.setIfInBounds_toArray, List.set_cons_zero, List.set_cons_succ]; done) | (simp only [putAll, Act.put, List.setIfInBounds_toArray, List.set_cons_zero, List.set_cons_succ]; rfl)
  · skip
    rintro s wc ⟨hS, ⟨hg6, hb6⟩, ⟨hg7, hb7⟩, hne⟩
    refine norm_ (a' := ?_) ?_ ?_
    rotate_left
    · simp only [putAll, Act.put, List.setIfInBounds_toArray, List.set_cons_zero, List.set_cons_succ]
      rfl
    obtain ⟨g7, g8⟩ := s
    simp only at hg6 hb6 hg7 hb7 hne ⊢
    refine one_ (i := 8) (N := none) #[true, true, true, true, true, true, true, true, true, false] rfl rfl (by kernel_rfl) (by decide) (fun K hK => ?_)
    refine st_step (by rfl) _ _ rfl g7 d rfl rfl zc hb6 ?_
    refine hK.out _ _ (below_rowb hS hg6 (vc d)) (fun hs => ?_)
    clear hK K
    have hb7' := row_far hb7 (vc d) (Ne.symm hne)
    have hb6' := row_new hb6 (vc d)
    refine norm_ (a' := ?_) ?_ ?_
    rotate_left
    · show Act.put _ none _ = _
      simp only [Act.put]
      rfl
    refine one_ (i := 9) (N := none) #[true, true, true, true, true, true, true, true, true, true] rfl rfl (by kernel_rfl) (by decide) (fun K hK => ?_)
    refine st_step (by rfl) _ _ rfl g8 r rfl rfl zc hb7' ?_
    refine hK.out _ _ (below_rowb hs hg7 (vc r)) (fun hs2 => ?_)
    clear hK K
    refine norm_ (a' := ?_) ?_ ?_
    rotate_left
    · show Act.put _ none _ = _
      simp only [Act.put]
      rfl
    refine done_ (by kernel_rfl) ?_
    have DF := Aside0.mk (row_far hb6' (vc r) hne)
    have RF := Aside0.mk (row_new hb7' (vc r))
    have HF := Aside0.mk (below_step H1.out hs2)
    have BF := Aside0.mk (blk_below B1.out hs2)
    generalize hwf : (wc.setRow g7 (vc d)).setRow g8 (vc r) = wf at *
    clear hwf hs hs2 hb6' hb7' hb6 hb7 hS Hs
    have c33 := (blk_cell BF.out 33).trans (get33 c)
    have c25 := (blk_cell BF.out 25).trans (get25 c)
    have c30 := (blk_cell BF.out 30).trans (get30 c)
    have d33 := (blk_cell DF.out 33).trans (get33 d)
    rw [sd33] at d33
    have d34 := (blk_cell DF.out 34).trans (get34 d)
    rw [sd34] at d34
    clear sd33 sd34
    go_wp2_with (first | refine ldg27 rfl _ rfl g7 rfl d (by exact DF.out) ?_ | refine ldg27 rfl _ rfl w.heap.size rfl c (by exact BF.out) ?_ | refine ldg29 rfl _ rfl g7 rfl d (by exact DF.out) ?_ | refine ldg29 rfl _ rfl w.heap.size rfl c (by exact BF.out) ?_)
    go_ret
    exact ⟨rfl, HF.out⟩
theorem halts_none (hf : Wf c) (HD : Aside0 (enterC c n tv = d)) (HR : Aside0 (returnC c = r)) (p0 : (c.ha == 0) = true) (p0n : (c.ha != 0) = false) (p1 : (Go.bits .and .u32 c.st 4 == 0) = true) (p1n : (Go.bits .and .u32 c.st 4 != 0) = false) (p2 : (c.ve == 0) = true) (sd33 : d.ha = 3) (sd34 : d.id = false) (r0 : regsEq d c = true) (r1 : ctlEq d c = true) :
    Calls Try.prog 7 #[.agg (vc c), .int .i64 n, .int .u32 tv] w fun e w' => e = .returned (.bool true) ∧ Below w.heap.size w w' := by
  go_enter Try.func7, Try.ntmps7
  go_wp2_with fail
  refine (works_calls _).mono ?_
  rintro e w1 ⟨rfl, hB⟩
  have B1 := Aside0.mk ((hB.block w.heap.size (by simp)).trans (heap_alloc_new w _))
  have H1 := Aside0.mk ((below_alloc (Below.refl w.heap.size w) _).trans (hB.mono (by simp)))
  have l1 := blk_lt B1.out
  clear hB
  go_wp2_with fail
  have Hs0 := Aside0.mk (below_drew1 (Below.refl w1.heap.size w1))
  refine start_ (n := 10) (S := fun w' => Below w1.heap.size w1 w') (ds := []) #[false, false, false, false, false, false, false, false, false, false] (by kernel_rfl) rfl rfl Hs0.out (fun hs => ?_)
  have Hs := Aside0.mk hs
  clear hs Hs0
  refine take_ (i := 0) (N := some 12) (v := .agg (vc c)) #[true, false, false, false, false, false, false, false, false, false] rfl rfl (by kernel_rfl) (fun _ _ _ h => h) (Or.inl ⟨by rfl, ?_⟩) ?_ (a' := ?_) ?_ ?_
  · intro w' hS
    exact ld_y _ rfl w.heap.size rfl c (blk_below B1.out hS)
  · exact Hs.out
  rotate_left
  · simp only [Act.put, List.setIfInBounds_toArray, List.set_cons_zero, List.set_cons_succ]
    rfl
  refine take_ (i := 4) (N := some 16) (v := .agg (vc c)) #[true, false, false, false, true, false, false, false, false, false] rfl rfl (by kernel_rfl) (fun _ _ _ h => h) (Or.inl ⟨by rfl, ?_⟩) ?_ (a' := ?_) ?_ ?_
  · intro w' hS
    exact ld_y _ rfl w.heap.size rfl c (blk_below B1.out hS)
  · exact Hs.out
  rotate_left
  · simp only [Act.put, List.setIfInBounds_toArray, List.set_cons_zero, List.set_cons_succ]
    rfl
  refine pure_ (i := 1) (N := some 13) (v := ?_) (a' := ?_) #[true, true, false, false, true, false, false, false, false, false] rfl rfl (by kernel_rfl) (fun _ _ _ h => h) (Or.inl ⟨by rfl, ?_⟩) ?_ ?_
  rotate_left
  · intro w'
    go_simp
    with_reducible rfl
  rotate_left
  · simp only [Act.put, List.setIfInBounds_toArray, List.set_cons_zero, List.set_cons_succ]
    rfl
  refine pure_ (i := 2) (N := some 14) (v := ?_) (a' := ?_) #[true, true, true, false, true, false, false, false, false, false] rfl rfl (by kernel_rfl) (fun _ _ _ h => h) (Or.inl ⟨by rfl, ?_⟩) ?_ ?_
  rotate_left
  · intro w'
    go_simp
    with_reducible rfl
  rotate_left
  · simp only [Act.put, List.setIfInBounds_toArray, List.set_cons_zero, List.set_cons_succ]
    rfl
  refine join_ (σ := Nat × Nat) 2 #[true, true, true, true, true, true, true, true, false, false] (fun s => [(15, Value.agg (vc d)), (17, Value.agg (vc r)), (7, Value.pointer (some ⟨s.1, 0, none⟩)), (8, Value.pointer (some ⟨s.2, 0, none⟩))]) (fun s w' => (Below w1.heap.size w1 w') ∧ (w1.heap.size ≤ s.1 ∧ w'.heap[s.1]? = some (.cells (vc zc) 31 (0, 0))) ∧ (w1.heap.size ≤ s.2 ∧ w'.heap[s.2]? = some (.cells (vc zc) 31 (0, 0))) ∧ (s.1 ≠ s.2)) ?_ ?_
  rotate_left
  · intro hJ3_5_6_7
    refine join_ (σ := Nat × Nat) 3 #[true, true, true, true, true, true, true, false, false, false] (fun s => [(15, Value.agg (vc d)), (17, Value.agg (vc r)), (7, Value.pointer (some ⟨s.1, 0, none⟩))]) (fun s w' => (Below w1.heap.size w1 w') ∧ (w1.heap.size ≤ s.1 ∧ w'.heap[s.1]? = some (.cells (vc zc) 31 (0, 0)))) ?_ ?_
    rotate_left
    · intro hJ3_5_6
      refine join_ (σ := Nat × Nat) 3 #[true, true, true, true, true, true, false, true, false, false] (fun s => [(15, Value.agg (vc d)), (17, Value.agg (vc r)), (8, Value.pointer (some ⟨s.2, 0, none⟩))]) (fun s w' => (Below w1.heap.size w1 w') ∧ (w1.heap.size ≤ s.2 ∧ w'.heap[s.2]? = some (.cells (vc zc) 31 (0, 0)))) ?_ ?_
      rotate_left
      · intro hJ3_5_7
        refine join_ (σ := Nat × Nat) 3 #[true, true, true, true, true, false, true, true, false, false] (fun s => [(15, Value.agg (vc d)), (7, Value.pointer (some ⟨s.1, 0, none⟩)), (8, Value.pointer (some ⟨s.2, 0, none⟩))]) (fun s w' => (Below w1.heap.size w1 w') ∧ (w1.heap.size ≤ s.1 ∧ w'.heap[s.1]? = some (.cells (vc zc) 31 (0, 0))) ∧ (w1.heap.size ≤ s.2 ∧ w'.heap[s.2]? = some (.cells (vc zc) 31 (0, 0))) ∧ (s.1 ≠ s.2)) ?_ ?_
        rotate_left
        · intro hJ3_6_7
          refine join_ (σ := Nat × Nat) 4 #[true, true, true, true, true, true, false, false, false, false] (fun s => [(15, Value.agg (vc d)), (17, Value.agg (vc r))]) (fun s w' => (Below w1.heap.size w1 w')) ?_ ?_
          rotate_left
          · intro hJ3_5
            refine join_ (σ := Nat × Nat) 4 #[true, true, true, true, true, false, true, false, false, false] (fun s => [(15, Value.agg (vc d)), (7, Value.pointer (some ⟨s.1, 0, none⟩))]) (fun s w' => (Below w1.heap.size w1 w') ∧ (w1.heap.size ≤ s.1 ∧ w'.heap[s.1]? = some (.cells (vc zc) 31 (0, 0)))) ?_ ?_
            rotate_left
            · intro hJ3_6
              refine join_ (σ := Nat × Nat) 4 #[true, true, true, true, true, false, false, true, false, false] (fun s => [(15, Value.agg (vc d)), (8, Value.pointer (some ⟨s.2, 0, none⟩))]) (fun s w' => (Below w1.heap.size w1 w') ∧ (w1.heap.size ≤ s.2 ∧ w'.heap[s.2]? = some (.cells (vc zc) 31 (0, 0)))) ?_ ?_
              rotate_left
              · intro hJ3_7
                refine join_ (σ := Nat × Nat) 4 #[true, true, true, false, true, false, true, true, false, false] (fun s => [(7, Value.pointer (some ⟨s.1, 0, none⟩)), (8, Value.pointer (some ⟨s.2, 0, none⟩))]) (fun s w' => (Below w1.heap.size w1 w') ∧ (w1.heap.size ≤ s.1 ∧ w'.heap[s.1]? = some (.cells (vc zc) 31 (0, 0))) ∧ (w1.heap.size ≤ s.2 ∧ w'.heap[s.2]? = some (.cells (vc zc) 31 (0, 0))) ∧ (s.1 ≠ s.2)) ?_ ?_
                rotate_left
                · intro hJ6_7
                  refine join_ (σ := Nat × Nat) 5 #[true, true, true, true, true, false, false, false, false, false] (fun s => [(15, Value.agg (vc d))]) (fun s w' => (Below w1.heap.size w1 w')) ?_ ?_
                  rotate_left
                  · intro hJ3
                    refine join_ (σ := Nat × Nat) 5 #[true, true, true, false, true, false, true, false, false, false] (fun s => [(7, Value.pointer (some ⟨s.1, 0, none⟩))]) (fun s w' => (Below w1.heap.size w1 w') ∧ (w1.heap.size ≤ s.1 ∧ w'.heap[s.1]? = some (.cells (vc zc) 31 (0, 0)))) ?_ ?_
                    rotate_left
                    · intro hJ6
                      refine join_ (σ := Nat × Nat) 5 #[true, true, true, false, true, false, false, true, false, false] (fun s => [(8, Value.pointer (some ⟨s.2, 0, none⟩))]) (fun s w' => (Below w1.heap.size w1 w') ∧ (w1.heap.size ≤ s.2 ∧ w'.heap[s.2]? = some (.cells (vc zc) 31 (0, 0)))) ?_ ?_
                      rotate_left
                      · intro hJ7
                        have hS := Hs.out
                        generalize w1.drew = wc at *
                        refine three_ (i := 3) (j := 6) (k := 7) (Ni := some 15) (Nj := some 7) (Nk := some 8) #[true, true, true, true, true, false, false, false, false, false] #[true, true, true, false, true, false, true, false, false, false] #[true, true, true, false, true, false, false, true, false, false] rfl rfl rfl rfl rfl rfl (by kernel_rfl) (by decide) (by decide) (by decide) (fun K hK => ?_) (fun K hK => ?_) (fun K hK => ?_)
                        · skip
                          refine call_ 17 _ (by rfl) rfl (by go_simp; rfl) ?_
                          refine (enter_calls c n tv _ hf.st.1 hf.st.2).mono ?_
                          rintro e wn ⟨rfl, hB⟩
                          rw [HD.out]
                          refine ⟨_, rfl, ?_⟩
                          refine hK.out _ _ (below_step hS hB) (fun hs => ?_)
                          refine norm_ ?_ (hJ3 (0, 0) wn (below_step hS hB))
                          first | (simp only [putAll, Act.put, List.setIfInBounds_toArray, List.set_cons_zero, List.set_cons_succ]; done) | (simp only [putAll, Act.put, List.setIfInBounds_toArray, List.set_cons_zero, List.set_cons_succ]; rfl)
                        · skip
                          refine box_step (by rfl) (N := 7) rfl (cs := vc zc) (t := 31) (by go_simp; rfl) ?_
                          intro gn hgn wn hbn hB
                          subst hgn
                          refine hK.out _ _ (below_step hS hB) (fun hs => ?_)
                          refine norm_ ?_ (hJ6 (wc.heap.size, 0) wn ⟨below_step hS hB, ⟨hS.size, hbn⟩⟩)
                          first | (simp only [putAll, Act.put, List.setIfInBounds_toArray, List.set_cons_zero, List.set_cons_succ]; done) | (simp only [putAll, Act.put, List.setIfInBounds_toArray, List.set_cons_zero, List.set_cons_succ]; rfl)
                        · skip
                          refine box_step (by rfl) (N := 8) rfl (cs := vc zc) (t := 31) (by go_simp; rfl) ?_
                          intro gn hgn wn hbn hB
                          subst hgn
                          refine hK.out _ _ (below_step hS hB) (fun hs => ?_)
                          refine norm_ ?_ (hJ7 (0, wc.heap.size) wn ⟨below_step hS hB, ⟨hS.size, hbn⟩⟩)
                          first | (simp only [putAll, Act.put, List.setIfInBounds_toArray, List.set_cons_zero, List.set_cons_succ]; done) | (simp only [putAll, Act.put, List.setIfInBounds_toArray, List.set_cons_zero, List.set_cons_succ]; rfl)
                      · skip
                        rintro s wc ⟨hS, ⟨hg7, hb7⟩⟩
                        refine norm_ (a' := ?_) ?_ ?_
                        rotate_left
                        · simp only [putAll, Act.put, List.setIfInBounds_toArray, List.set_cons_zero, List.set_cons_succ]
                          rfl
                        refine two_ (i := 3) (j := 6) (Ni := some 15) (Nj := some 7) #[true, true, true, true, true, false, false, true, false, false] #[true, true, true, false, true, false, true, true, false, false] rfl rfl rfl rfl (by kernel_rfl) (by decide) (by decide) (fun K hK => ?_) (fun K hK => ?_)
                        · skip
                          refine call_ 17 _ (by rfl) rfl (by go_simp; rfl) ?_
                          refine (enter_calls c n tv _ hf.st.1 hf.st.2).mono ?_
                          rintro e wn ⟨rfl, hB⟩
                          rw [HD.out]
                          refine ⟨_, rfl, ?_⟩
                          refine hK.out _ _ (below_step hS hB) (fun hs => ?_)
                          refine norm_ ?_ (hJ3_7 (s.1, s.2) wn ⟨below_step hS hB, ⟨hg7, blk_below hb7 hB⟩⟩)
                          first | (simp only [putAll, Act.put, List.setIfInBounds_toArray, List.set_cons_zero, List.set_cons_succ]; done) | (simp only [putAll, Act.put, List.setIfInBounds_toArray, List.set_cons_zero, List.set_cons_succ]; rfl)
                        · skip
                          refine box_step (by rfl) (N := 7) rfl (cs := vc zc) (t := 31) (by go_simp; rfl) ?_
                          intro gn hgn wn hbn hB
                          subst hgn
                          refine hK.out _ _ (below_step hS hB) (fun hs => ?_)
                          refine norm_ ?_ (hJ6_7 (wc.heap.size, s.2) wn ⟨below_step hS hB, ⟨hS.size, hbn⟩, ⟨hg7, blk_below hb7 hB⟩, (show _ ≠ _ from (fun h => by have := blk_lt hb7; simp only at h; omega))⟩)
                          first | (simp only [putAll, Act.put, List.setIfInBounds_toArray, List.set_cons_zero, List.set_cons_succ]; done) | (simp only [putAll, Act.put, List.setIfInBounds_toArray, List.set_cons_zero, List.set_cons_succ]; rfl)
                    · skip
                      rintro s wc ⟨hS, ⟨hg6, hb6⟩⟩
                      refine norm_ (a' := ?_) ?_ ?_
                      rotate_left
                      · simp only [putAll, Act.put, List.setIfInBounds_toArray, List.set_cons_zero, List.set_cons_succ]
                        rfl
                      refine two_ (i := 3) (j := 7) (Ni := some 15) (Nj := some 8) #[true, true, true, true, true, false, true, false, false, false] #[true, true, true, false, true, false, true, true, false, false] rfl rfl rfl rfl (by kernel_rfl) (by decide) (by decide) (fun K hK => ?_) (fun K hK => ?_)
                      · skip
                        refine call_ 17 _ (by rfl) rfl (by go_simp; rfl) ?_
                        refine (enter_calls c n tv _ hf.st.1 hf.st.2).mono ?_
                        rintro e wn ⟨rfl, hB⟩
                        rw [HD.out]
                        refine ⟨_, rfl, ?_⟩
                        refine hK.out _ _ (below_step hS hB) (fun hs => ?_)
                        refine norm_ ?_ (hJ3_6 (s.1, s.2) wn ⟨below_step hS hB, ⟨hg6, blk_below hb6 hB⟩⟩)
                        first | (simp only [putAll, Act.put, List.setIfInBounds_toArray, List.set_cons_zero, List.set_cons_succ]; done) | (simp only [putAll, Act.put, List.setIfInBounds_toArray, List.set_cons_zero, List.set_cons_succ]; rfl)
                      · skip
                        refine box_step (by rfl) (N := 8) rfl (cs := vc zc) (t := 31) (by go_simp; rfl) ?_
                        intro gn hgn wn hbn hB
                        subst hgn
                        refine hK.out _ _ (below_step hS hB) (fun hs => ?_)
                        refine norm_ ?_ (hJ6_7 (s.1, wc.heap.size) wn ⟨below_step hS hB, ⟨hg6, blk_below hb6 hB⟩, ⟨hS.size, hbn⟩, (show _ ≠ _ from (fun h => by have := blk_lt hb6; simp only at h; omega))⟩)
                        first | (simp only [putAll, Act.put, List.setIfInBounds_toArray, List.set_cons_zero, List.set_cons_succ]; done) | (simp only [putAll, Act.put, List.setIfInBounds_toArray, List.set_cons_zero, List.set_cons_succ]; rfl)
                  · skip
                    intro s wc hS
                    refine norm_ (a' := ?_) ?_ ?_
                    rotate_left
                    · simp only [putAll, Act.put, List.setIfInBounds_toArray, List.set_cons_zero, List.set_cons_succ]
                      rfl
                    refine three_ (i := 5) (j := 6) (k := 7) (Ni := some 17) (Nj := some 7) (Nk := some 8) #[true, true, true, true, true, true, false, false, false, false] #[true, true, true, true, true, false, true, false, false, false] #[true, true, true, true, true, false, false, true, false, false] rfl rfl rfl rfl rfl rfl (by kernel_rfl) (by decide) (by decide) (by decide) (fun K hK => ?_) (fun K hK => ?_) (fun K hK => ?_)
                    · skip
                      refine call_ 19 _ (by rfl) rfl (by go_simp; rfl) ?_
                      refine (return_calls c _).mono ?_
                      rintro e wn ⟨rfl, hB⟩
                      rw [HR.out]
                      refine ⟨_, rfl, ?_⟩
                      refine hK.out _ _ (below_step hS hB) (fun hs => ?_)
                      refine norm_ ?_ (hJ3_5 (s.1, s.2) wn (below_step hS hB))
                      first | (simp only [putAll, Act.put, List.setIfInBounds_toArray, List.set_cons_zero, List.set_cons_succ]; done) | (simp only [putAll, Act.put, List.setIfInBounds_toArray, List.set_cons_zero, List.set_cons_succ]; rfl)
                    · skip
                      refine box_step (by rfl) (N := 7) rfl (cs := vc zc) (t := 31) (by go_simp; rfl) ?_
                      intro gn hgn wn hbn hB
                      subst hgn
                      refine hK.out _ _ (below_step hS hB) (fun hs => ?_)
                      refine norm_ ?_ (hJ3_6 (wc.heap.size, s.2) wn ⟨below_step hS hB, ⟨hS.size, hbn⟩⟩)
                      first | (simp only [putAll, Act.put, List.setIfInBounds_toArray, List.set_cons_zero, List.set_cons_succ]; done) | (simp only [putAll, Act.put, List.setIfInBounds_toArray, List.set_cons_zero, List.set_cons_succ]; rfl)
                    · skip
                      refine box_step (by rfl) (N := 8) rfl (cs := vc zc) (t := 31) (by go_simp; rfl) ?_
                      intro gn hgn wn hbn hB
                      subst hgn
                      refine hK.out _ _ (below_step hS hB) (fun hs => ?_)
                      refine norm_ ?_ (hJ3_7 (s.1, wc.heap.size) wn ⟨below_step hS hB, ⟨hS.size, hbn⟩⟩)
                      first | (simp only [putAll, Act.put, List.setIfInBounds_toArray, List.set_cons_zero, List.set_cons_succ]; done) | (simp only [putAll, Act.put, List.setIfInBounds_toArray, List.set_cons_zero, List.set_cons_succ]; rfl)
                · skip
                  rintro s wc ⟨hS, ⟨hg6, hb6⟩, ⟨hg7, hb7⟩, hne⟩
                  refine norm_ (a' := ?_) ?_ ?_
                  rotate_left
                  · simp only [putAll, Act.put, List.setIfInBounds_toArray, List.set_cons_zero, List.set_cons_succ]
                    rfl
                  refine one_ (i := 3) (N := some 15) #[true, true, true, true, true, false, true, true, false, false] rfl rfl (by kernel_rfl) (by decide) (fun K hK => ?_)
                  refine call_ 17 _ (by rfl) rfl (by go_simp; rfl) ?_
                  refine (enter_calls c n tv _ hf.st.1 hf.st.2).mono ?_
                  rintro e wn ⟨rfl, hB⟩
                  rw [HD.out]
                  refine ⟨_, rfl, ?_⟩
                  refine hK.out _ _ (below_step hS hB) (fun hs => ?_)
                  refine norm_ ?_ (hJ3_6_7 (s.1, s.2) wn ⟨below_step hS hB, ⟨hg6, blk_below hb6 hB⟩, ⟨hg7, blk_below hb7 hB⟩, hne⟩)
                  first | (simp only [putAll, Act.put, List.setIfInBounds_toArray, List.set_cons_zero, List.set_cons_succ]; done) | (simp only [putAll, Act.put, List.setIfInBounds_toArray, List.set_cons_zero, List.set_cons_succ]; rfl)
              · skip
                rintro s wc ⟨hS, ⟨hg7, hb7⟩⟩
                refine norm_ (a' := ?_) ?_ ?_
                rotate_left
                · simp only [putAll, Act.put, List.setIfInBounds_toArray, List.set_cons_zero, List.set_cons_succ]
                  rfl
                refine two_ (i := 5) (j := 6) (Ni := some 17) (Nj := some 7) #[true, true, true, true, true, true, false, true, false, false] #[true, true, true, true, true, false, true, true, false, false] rfl rfl rfl rfl (by kernel_rfl) (by decide) (by decide) (fun K hK => ?_) (fun K hK => ?_)
                · skip
                  refine call_ 19 _ (by rfl) rfl (by go_simp; rfl) ?_
                  refine (return_calls c _).mono ?_
                  rintro e wn ⟨rfl, hB⟩
                  rw [HR.out]
                  refine ⟨_, rfl, ?_⟩
                  refine hK.out _ _ (below_step hS hB) (fun hs => ?_)
                  refine norm_ ?_ (hJ3_5_7 (s.1, s.2) wn ⟨below_step hS hB, ⟨hg7, blk_below hb7 hB⟩⟩)
                  first | (simp only [putAll, Act.put, List.setIfInBounds_toArray, List.set_cons_zero, List.set_cons_succ]; done) | (simp only [putAll, Act.put, List.setIfInBounds_toArray, List.set_cons_zero, List.set_cons_succ]; rfl)
                · skip
                  refine box_step (by rfl) (N := 7) rfl (cs := vc zc) (t := 31) (by go_simp; rfl) ?_
                  intro gn hgn wn hbn hB
                  subst hgn
                  refine hK.out _ _ (below_step hS hB) (fun hs => ?_)
                  refine norm_ ?_ (hJ3_6_7 (wc.heap.size, s.2) wn ⟨below_step hS hB, ⟨hS.size, hbn⟩, ⟨hg7, blk_below hb7 hB⟩, (show _ ≠ _ from (fun h => by have := blk_lt hb7; simp only at h; omega))⟩)
                  first | (simp only [putAll, Act.put, List.setIfInBounds_toArray, List.set_cons_zero, List.set_cons_succ]; done) | (simp only [putAll, Act.put, List.setIfInBounds_toArray, List.set_cons_zero, List.set_cons_succ]; rfl)
            · skip
              rintro s wc ⟨hS, ⟨hg6, hb6⟩⟩
              refine norm_ (a' := ?_) ?_ ?_
              rotate_left
              · simp only [putAll, Act.put, List.setIfInBounds_toArray, List.set_cons_zero, List.set_cons_succ]
                rfl
              refine two_ (i := 5) (j := 7) (Ni := some 17) (Nj := some 8) #[true, true, true, true, true, true, true, false, false, false] #[true, true, true, true, true, false, true, true, false, false] rfl rfl rfl rfl (by kernel_rfl) (by decide) (by decide) (fun K hK => ?_) (fun K hK => ?_)
              · skip
                refine call_ 19 _ (by rfl) rfl (by go_simp; rfl) ?_
                refine (return_calls c _).mono ?_
                rintro e wn ⟨rfl, hB⟩
                rw [HR.out]
                refine ⟨_, rfl, ?_⟩
                refine hK.out _ _ (below_step hS hB) (fun hs => ?_)
                refine norm_ ?_ (hJ3_5_6 (s.1, s.2) wn ⟨below_step hS hB, ⟨hg6, blk_below hb6 hB⟩⟩)
                first | (simp only [putAll, Act.put, List.setIfInBounds_toArray, List.set_cons_zero, List.set_cons_succ]; done) | (simp only [putAll, Act.put, List.setIfInBounds_toArray, List.set_cons_zero, List.set_cons_succ]; rfl)
              · skip
                refine box_step (by rfl) (N := 8) rfl (cs := vc zc) (t := 31) (by go_simp; rfl) ?_
                intro gn hgn wn hbn hB
                subst hgn
                refine hK.out _ _ (below_step hS hB) (fun hs => ?_)
                refine norm_ ?_ (hJ3_6_7 (s.1, wc.heap.size) wn ⟨below_step hS hB, ⟨hg6, blk_below hb6 hB⟩, ⟨hS.size, hbn⟩, (show _ ≠ _ from (fun h => by have := blk_lt hb6; simp only at h; omega))⟩)
                first | (simp only [putAll, Act.put, List.setIfInBounds_toArray, List.set_cons_zero, List.set_cons_succ]; done) | (simp only [putAll, Act.put, List.setIfInBounds_toArray, List.set_cons_zero, List.set_cons_succ]; rfl)
          · skip
            intro s wc hS
            refine norm_ (a' := ?_) ?_ ?_
            rotate_left
            · simp only [putAll, Act.put, List.setIfInBounds_toArray, List.set_cons_zero, List.set_cons_succ]
              rfl
            refine two_ (i := 6) (j := 7) (Ni := some 7) (Nj := some 8) #[true, true, true, true, true, true, true, false, false, false] #[true, true, true, true, true, true, false, true, false, false] rfl rfl rfl rfl (by kernel_rfl) (by decide) (by decide) (fun K hK => ?_) (fun K hK => ?_)
            · skip
              refine box_step (by rfl) (N := 7) rfl (cs := vc zc) (t := 31) (by go_simp; rfl) ?_
              intro gn hgn wn hbn hB
              subst hgn
              refine hK.out _ _ (below_step hS hB) (fun hs => ?_)
              refine norm_ ?_ (hJ3_5_6 (wc.heap.size, s.2) wn ⟨below_step hS hB, ⟨hS.size, hbn⟩⟩)
              first | (simp only [putAll, Act.put, List.setIfInBounds_toArray, List.set_cons_zero, List.set_cons_succ]; done) | (simp only [putAll, Act.put, List.setIfInBounds_toArray, List.set_cons_zero, List.set_cons_succ]; rfl)
            · skip
              refine box_step (by rfl) (N := 8) rfl (cs := vc zc) (t := 31) (by go_simp; rfl) ?_
              intro gn hgn wn hbn hB
              subst hgn
              refine hK.out _ _ (below_step hS hB) (fun hs => ?_)
              refine norm_ ?_ (hJ3_5_7 (s.1, wc.heap.size) wn ⟨below_step hS hB, ⟨hS.size, hbn⟩⟩)
              first | (simp only [putAll, Act.put, List.setIfInBounds_toArray, List.set_cons_zero, List.set_cons_succ]; done) | (simp only [putAll, Act.put, List.setIfInBounds_toArray, List.set_cons_zero, List.set_cons_succ]; rfl)
        · skip
          rintro s wc ⟨hS, ⟨hg6, hb6⟩, ⟨hg7, hb7⟩, hne⟩
          refine norm_ (a' := ?_) ?_ ?_
          rotate_left
          · simp only [putAll, Act.put, List.setIfInBounds_toArray, List.set_cons_zero, List.set_cons_succ]
            rfl
          refine one_ (i := 5) (N := some 17) #[true, true, true, true, true, true, true, true, false, false] rfl rfl (by kernel_rfl) (by decide) (fun K hK => ?_)
          refine call_ 19 _ (by rfl) rfl (by go_simp; rfl) ?_
          refine (return_calls c _).mono ?_
          rintro e wn ⟨rfl, hB⟩
          rw [HR.out]
          refine ⟨_, rfl, ?_⟩
          refine hK.out _ _ (below_step hS hB) (fun hs => ?_)
          refine norm_ ?_ (hJ3_5_6_7 (s.1, s.2) wn ⟨below_step hS hB, ⟨hg6, blk_below hb6 hB⟩, ⟨hg7, blk_below hb7 hB⟩, hne⟩)
          first | (simp only [putAll, Act.put, List.setIfInBounds_toArray, List.set_cons_zero, List.set_cons_succ]; done) | (simp only [putAll, Act.put, List.setIfInBounds_toArray, List.set_cons_zero, List.set_cons_succ]; rfl)
      · skip
        rintro s wc ⟨hS, ⟨hg7, hb7⟩⟩
        refine norm_ (a' := ?_) ?_ ?_
        rotate_left
        · simp only [putAll, Act.put, List.setIfInBounds_toArray, List.set_cons_zero, List.set_cons_succ]
          rfl
        refine one_ (i := 6) (N := some 7) #[true, true, true, true, true, true, true, true, false, false] rfl rfl (by kernel_rfl) (by decide) (fun K hK => ?_)
        refine box_step (by rfl) (N := 7) rfl (cs := vc zc) (t := 31) (by go_simp; rfl) ?_
        intro gn hgn wn hbn hB
        subst hgn
        refine hK.out _ _ (below_step hS hB) (fun hs => ?_)
        refine norm_ ?_ (hJ3_5_6_7 (wc.heap.size, s.2) wn ⟨below_step hS hB, ⟨hS.size, hbn⟩, ⟨hg7, blk_below hb7 hB⟩, (show _ ≠ _ from (fun h => by have := blk_lt hb7; simp only at h; omega))⟩)
        first | (simp only [putAll, Act.put, List.setIfInBounds_toArray, List.set_cons_zero, List.set_cons_succ]; done) | (simp only [putAll, Act.put, List.setIfInBounds_toArray, List.set_cons_zero, List.set_cons_succ]; rfl)
    · skip
      rintro s wc ⟨hS, ⟨hg6, hb6⟩⟩
      refine norm_ (a' := ?_) ?_ ?_
      rotate_left
      · simp only [putAll, Act.put, List.setIfInBounds_toArray, List.set_cons_zero, List.set_cons_succ]
        rfl
      refine one_ (i := 7) (N := some 8) #[true, true, true, true, true, true, true, true, false, false] rfl rfl (by kernel_rfl) (by decide) (fun K hK => ?_)
      refine box_step (by rfl) (N := 8) rfl (cs := vc zc) (t := 31) (by go_simp; rfl) ?_
      intro gn hgn wn hbn hB
      subst hgn
      refine hK.out _ _ (below_step hS hB) (fun hs => ?_)
      refine norm_ ?_ (hJ3_5_6_7 (s.1, wc.heap.size) wn ⟨below_step hS hB, ⟨hg6, blk_below hb6 hB⟩, ⟨hS.size, hbn⟩, (show _ ≠ _ from (fun h => by have := blk_lt hb6; simp only at h; omega))⟩)
      first | (simp only [putAll, Act.put, List.setIfInBounds_toArray, List.set_cons_zero, List.set_cons_succ]; done) | (simp only [putAll, Act.put, List.setIfInBounds_toArray, List.set_cons_zero, List.set_cons_succ]; rfl)
  · skip
    rintro s wc ⟨hS, ⟨hg6, hb6⟩, ⟨hg7, hb7⟩, hne⟩
    refine norm_ (a' := ?_) ?_ ?_
    rotate_left
    · simp only [putAll, Act.put, List.setIfInBounds_toArray, List.set_cons_zero, List.set_cons_succ]
      rfl
    obtain ⟨g7, g8⟩ := s
    simp only at hg6 hb6 hg7 hb7 hne ⊢
    refine one_ (i := 8) (N := none) #[true, true, true, true, true, true, true, true, true, false] rfl rfl (by kernel_rfl) (by decide) (fun K hK => ?_)
    refine st_step (by rfl) _ _ rfl g7 d rfl rfl zc hb6 ?_
    refine hK.out _ _ (below_rowb hS hg6 (vc d)) (fun hs => ?_)
    clear hK K
    have hb7' := row_far hb7 (vc d) (Ne.symm hne)
    have hb6' := row_new hb6 (vc d)
    refine norm_ (a' := ?_) ?_ ?_
    rotate_left
    · show Act.put _ none _ = _
      simp only [Act.put]
      rfl
    refine one_ (i := 9) (N := none) #[true, true, true, true, true, true, true, true, true, true] rfl rfl (by kernel_rfl) (by decide) (fun K hK => ?_)
    refine st_step (by rfl) _ _ rfl g8 r rfl rfl zc hb7' ?_
    refine hK.out _ _ (below_rowb hs hg7 (vc r)) (fun hs2 => ?_)
    clear hK K
    refine norm_ (a' := ?_) ?_ ?_
    rotate_left
    · show Act.put _ none _ = _
      simp only [Act.put]
      rfl
    refine done_ (by kernel_rfl) ?_
    have DF := Aside0.mk (row_far hb6' (vc r) hne)
    have RF := Aside0.mk (row_new hb7' (vc r))
    have HF := Aside0.mk (below_step H1.out hs2)
    have BF := Aside0.mk (blk_below B1.out hs2)
    generalize hwf : (wc.setRow g7 (vc d)).setRow g8 (vc r) = wf at *
    clear hwf hs hs2 hb6' hb7' hb6 hb7 hS Hs
    have c33 := (blk_cell BF.out 33).trans (get33 c)
    have c25 := (blk_cell BF.out 25).trans (get25 c)
    have c30 := (blk_cell BF.out 30).trans (get30 c)
    have d33 := (blk_cell DF.out 33).trans (get33 d)
    rw [sd33] at d33
    have d34 := (blk_cell DF.out 34).trans (get34 d)
    rw [sd34] at d34
    clear sd33 sd34
    go_wp2_with (first | refine ldg27 rfl _ rfl g7 rfl d (by exact DF.out) ?_ | refine ldg27 rfl _ rfl w.heap.size rfl c (by exact BF.out) ?_ | refine ldg29 rfl _ rfl g7 rfl d (by exact DF.out) ?_ | refine ldg29 rfl _ rfl w.heap.size rfl c (by exact BF.out) ?_)
    go_ret
    exact ⟨rfl, HF.out⟩
theorem halts_goes (hf : Wf c) (HD : Aside0 (enterC c n tv = d)) (HR : Aside0 (returnC c = r)) (p0 : (c.ha == 0) = true) (p0n : (c.ha != 0) = false) (p1 : (Go.bits .and .u32 c.st 4 == 0) = true) (p1n : (Go.bits .and .u32 c.st 4 != 0) = false) (p2 : (c.ve == 0) = false) (sd33 : d.ha = 0) (sd24 : d.pc = c.ve) (sd28 : d.ep = c.pc) (sd25 : d.st = 6) (sd26 : d.sv = c.st) (sr33 : r.ha = 0) (sr24 : r.pc = c.ep) :
    Calls Try.prog 7 #[.agg (vc c), .int .i64 n, .int .u32 tv] w fun e w' => e = .returned (.bool true) ∧ Below w.heap.size w w' := by
  go_enter Try.func7, Try.ntmps7
  go_wp2_with fail
  refine (works_calls _).mono ?_
  rintro e w1 ⟨rfl, hB⟩
  have B1 := Aside0.mk ((hB.block w.heap.size (by simp)).trans (heap_alloc_new w _))
  have H1 := Aside0.mk ((below_alloc (Below.refl w.heap.size w) _).trans (hB.mono (by simp)))
  have l1 := blk_lt B1.out
  clear hB
  go_wp2_with fail
  have Hs0 := Aside0.mk (below_drew1 (Below.refl w1.heap.size w1))
  refine start_ (n := 10) (S := fun w' => Below w1.heap.size w1 w') (ds := []) #[false, false, false, false, false, false, false, false, false, false] (by kernel_rfl) rfl rfl Hs0.out (fun hs => ?_)
  have Hs := Aside0.mk hs
  clear hs Hs0
  refine take_ (i := 0) (N := some 12) (v := .agg (vc c)) #[true, false, false, false, false, false, false, false, false, false] rfl rfl (by kernel_rfl) (fun _ _ _ h => h) (Or.inl ⟨by rfl, ?_⟩) ?_ (a' := ?_) ?_ ?_
  · intro w' hS
    exact ld_y _ rfl w.heap.size rfl c (blk_below B1.out hS)
  · exact Hs.out
  rotate_left
  · simp only [Act.put, List.setIfInBounds_toArray, List.set_cons_zero, List.set_cons_succ]
    rfl
  refine take_ (i := 4) (N := some 16) (v := .agg (vc c)) #[true, false, false, false, true, false, false, false, false, false] rfl rfl (by kernel_rfl) (fun _ _ _ h => h) (Or.inl ⟨by rfl, ?_⟩) ?_ (a' := ?_) ?_ ?_
  · intro w' hS
    exact ld_y _ rfl w.heap.size rfl c (blk_below B1.out hS)
  · exact Hs.out
  rotate_left
  · simp only [Act.put, List.setIfInBounds_toArray, List.set_cons_zero, List.set_cons_succ]
    rfl
  refine pure_ (i := 1) (N := some 13) (v := ?_) (a' := ?_) #[true, true, false, false, true, false, false, false, false, false] rfl rfl (by kernel_rfl) (fun _ _ _ h => h) (Or.inl ⟨by rfl, ?_⟩) ?_ ?_
  rotate_left
  · intro w'
    go_simp
    with_reducible rfl
  rotate_left
  · simp only [Act.put, List.setIfInBounds_toArray, List.set_cons_zero, List.set_cons_succ]
    rfl
  refine pure_ (i := 2) (N := some 14) (v := ?_) (a' := ?_) #[true, true, true, false, true, false, false, false, false, false] rfl rfl (by kernel_rfl) (fun _ _ _ h => h) (Or.inl ⟨by rfl, ?_⟩) ?_ ?_
  rotate_left
  · intro w'
    go_simp
    with_reducible rfl
  rotate_left
  · simp only [Act.put, List.setIfInBounds_toArray, List.set_cons_zero, List.set_cons_succ]
    rfl
  refine join_ (σ := Nat × Nat) 2 #[true, true, true, true, true, true, true, true, false, false] (fun s => [(15, Value.agg (vc d)), (17, Value.agg (vc r)), (7, Value.pointer (some ⟨s.1, 0, none⟩)), (8, Value.pointer (some ⟨s.2, 0, none⟩))]) (fun s w' => (Below w1.heap.size w1 w') ∧ (w1.heap.size ≤ s.1 ∧ w'.heap[s.1]? = some (.cells (vc zc) 31 (0, 0))) ∧ (w1.heap.size ≤ s.2 ∧ w'.heap[s.2]? = some (.cells (vc zc) 31 (0, 0))) ∧ (s.1 ≠ s.2)) ?_ ?_
  rotate_left
  · intro hJ3_5_6_7
    refine join_ (σ := Nat × Nat) 3 #[true, true, true, true, true, true, true, false, false, false] (fun s => [(15, Value.agg (vc d)), (17, Value.agg (vc r)), (7, Value.pointer (some ⟨s.1, 0, none⟩))]) (fun s w' => (Below w1.heap.size w1 w') ∧ (w1.heap.size ≤ s.1 ∧ w'.heap[s.1]? = some (.cells (vc zc) 31 (0, 0)))) ?_ ?_
    rotate_left
    · intro hJ3_5_6
      refine join_ (σ := Nat × Nat) 3 #[true, true, true, true, true, true, false, true, false, false] (fun s => [(15, Value.agg (vc d)), (17, Value.agg (vc r)), (8, Value.pointer (some ⟨s.2, 0, none⟩))]) (fun s w' => (Below w1.heap.size w1 w') ∧ (w1.heap.size ≤ s.2 ∧ w'.heap[s.2]? = some (.cells (vc zc) 31 (0, 0)))) ?_ ?_
      rotate_left
      · intro hJ3_5_7
        refine join_ (σ := Nat × Nat) 3 #[true, true, true, true, true, false, true, true, false, false] (fun s => [(15, Value.agg (vc d)), (7, Value.pointer (some ⟨s.1, 0, none⟩)), (8, Value.pointer (some ⟨s.2, 0, none⟩))]) (fun s w' => (Below w1.heap.size w1 w') ∧ (w1.heap.size ≤ s.1 ∧ w'.heap[s.1]? = some (.cells (vc zc) 31 (0, 0))) ∧ (w1.heap.size ≤ s.2 ∧ w'.heap[s.2]? = some (.cells (vc zc) 31 (0, 0))) ∧ (s.1 ≠ s.2)) ?_ ?_
        rotate_left
        · intro hJ3_6_7
          refine join_ (σ := Nat × Nat) 4 #[true, true, true, true, true, true, false, false, false, false] (fun s => [(15, Value.agg (vc d)), (17, Value.agg (vc r))]) (fun s w' => (Below w1.heap.size w1 w')) ?_ ?_
          rotate_left
          · intro hJ3_5
            refine join_ (σ := Nat × Nat) 4 #[true, true, true, true, true, false, true, false, false, false] (fun s => [(15, Value.agg (vc d)), (7, Value.pointer (some ⟨s.1, 0, none⟩))]) (fun s w' => (Below w1.heap.size w1 w') ∧ (w1.heap.size ≤ s.1 ∧ w'.heap[s.1]? = some (.cells (vc zc) 31 (0, 0)))) ?_ ?_
            rotate_left
            · intro hJ3_6
              refine join_ (σ := Nat × Nat) 4 #[true, true, true, true, true, false, false, true, false, false] (fun s => [(15, Value.agg (vc d)), (8, Value.pointer (some ⟨s.2, 0, none⟩))]) (fun s w' => (Below w1.heap.size w1 w') ∧ (w1.heap.size ≤ s.2 ∧ w'.heap[s.2]? = some (.cells (vc zc) 31 (0, 0)))) ?_ ?_
              rotate_left
              · intro hJ3_7
                refine join_ (σ := Nat × Nat) 4 #[true, true, true, false, true, false, true, true, false, false] (fun s => [(7, Value.pointer (some ⟨s.1, 0, none⟩)), (8, Value.pointer (some ⟨s.2, 0, none⟩))]) (fun s w' => (Below w1.heap.size w1 w') ∧ (w1.heap.size ≤ s.1 ∧ w'.heap[s.1]? = some (.cells (vc zc) 31 (0, 0))) ∧ (w1.heap.size ≤ s.2 ∧ w'.heap[s.2]? = some (.cells (vc zc) 31 (0, 0))) ∧ (s.1 ≠ s.2)) ?_ ?_
                rotate_left
                · intro hJ6_7
                  refine join_ (σ := Nat × Nat) 5 #[true, true, true, true, true, false, false, false, false, false] (fun s => [(15, Value.agg (vc d))]) (fun s w' => (Below w1.heap.size w1 w')) ?_ ?_
                  rotate_left
                  · intro hJ3
                    refine join_ (σ := Nat × Nat) 5 #[true, true, true, false, true, false, true, false, false, false] (fun s => [(7, Value.pointer (some ⟨s.1, 0, none⟩))]) (fun s w' => (Below w1.heap.size w1 w') ∧ (w1.heap.size ≤ s.1 ∧ w'.heap[s.1]? = some (.cells (vc zc) 31 (0, 0)))) ?_ ?_
                    rotate_left
                    · intro hJ6
                      refine join_ (σ := Nat × Nat) 5 #[true, true, true, false, true, false, false, true, false, false] (fun s => [(8, Value.pointer (some ⟨s.2, 0, none⟩))]) (fun s w' => (Below w1.heap.size w1 w') ∧ (w1.heap.size ≤ s.2 ∧ w'.heap[s.2]? = some (.cells (vc zc) 31 (0, 0)))) ?_ ?_
                      rotate_left
                      · intro hJ7
                        have hS := Hs.out
                        generalize w1.drew = wc at *
                        refine three_ (i := 3) (j := 6) (k := 7) (Ni := some 15) (Nj := some 7) (Nk := some 8) #[true, true, true, true, true, false, false, false, false, false] #[true, true, true, false, true, false, true, false, false, false] #[true, true, true, false, true, false, false, true, false, false] rfl rfl rfl rfl rfl rfl (by kernel_rfl) (by decide) (by decide) (by decide) (fun K hK => ?_) (fun K hK => ?_) (fun K hK => ?_)
                        · skip
                          refine call_ 17 _ (by rfl) rfl (by go_simp; rfl) ?_
                          refine (enter_calls c n tv _ hf.st.1 hf.st.2).mono ?_
                          rintro e wn ⟨rfl, hB⟩
                          rw [HD.out]
                          refine ⟨_, rfl, ?_⟩
                          refine hK.out _ _ (below_step hS hB) (fun hs => ?_)
                          refine norm_ ?_ (hJ3 (0, 0) wn (below_step hS hB))
                          first | (simp only [putAll, Act.put, List.setIfInBounds_toArray, List.set_cons_zero, List.set_cons_succ]; done) | (simp only [putAll, Act.put, List.setIfInBounds_toArray, List.set_cons_zero, List.set_cons_succ]; rfl)
                        · skip
                          refine box_step (by rfl) (N := 7) rfl (cs := vc zc) (t := 31) (by go_simp; rfl) ?_
                          intro gn hgn wn hbn hB
                          subst hgn
                          refine hK.out _ _ (below_step hS hB) (fun hs => ?_)
                          refine norm_ ?_ (hJ6 (wc.heap.size, 0) wn ⟨below_step hS hB, ⟨hS.size, hbn⟩⟩)
                          first | (simp only [putAll, Act.put, List.setIfInBounds_toArray, List.set_cons_zero, List.set_cons_succ]; done) | (simp only [putAll, Act.put, List.setIfInBounds_toArray, List.set_cons_zero, List.set_cons_succ]; rfl)
                        · skip
                          refine box_step (by rfl) (N := 8) rfl (cs := vc zc) (t := 31) (by go_simp; rfl) ?_
                          intro gn hgn wn hbn hB
                          subst hgn
                          refine hK.out _ _ (below_step hS hB) (fun hs => ?_)
                          refine norm_ ?_ (hJ7 (0, wc.heap.size) wn ⟨below_step hS hB, ⟨hS.size, hbn⟩⟩)
                          first | (simp only [putAll, Act.put, List.setIfInBounds_toArray, List.set_cons_zero, List.set_cons_succ]; done) | (simp only [putAll, Act.put, List.setIfInBounds_toArray, List.set_cons_zero, List.set_cons_succ]; rfl)
                      · skip
                        rintro s wc ⟨hS, ⟨hg7, hb7⟩⟩
                        refine norm_ (a' := ?_) ?_ ?_
                        rotate_left
                        · simp only [putAll, Act.put, List.setIfInBounds_toArray, List.set_cons_zero, List.set_cons_succ]
                          rfl
                        refine two_ (i := 3) (j := 6) (Ni := some 15) (Nj := some 7) #[true, true, true, true, true, false, false, true, false, false] #[true, true, true, false, true, false, true, true, false, false] rfl rfl rfl rfl (by kernel_rfl) (by decide) (by decide) (fun K hK => ?_) (fun K hK => ?_)
                        · skip
                          refine call_ 17 _ (by rfl) rfl (by go_simp; rfl) ?_
                          refine (enter_calls c n tv _ hf.st.1 hf.st.2).mono ?_
                          rintro e wn ⟨rfl, hB⟩
                          rw [HD.out]
                          refine ⟨_, rfl, ?_⟩
                          refine hK.out _ _ (below_step hS hB) (fun hs => ?_)
                          refine norm_ ?_ (hJ3_7 (s.1, s.2) wn ⟨below_step hS hB, ⟨hg7, blk_below hb7 hB⟩⟩)
                          first | (simp only [putAll, Act.put, List.setIfInBounds_toArray, List.set_cons_zero, List.set_cons_succ]; done) | (simp only [putAll, Act.put, List.setIfInBounds_toArray, List.set_cons_zero, List.set_cons_succ]; rfl)
                        · skip
                          refine box_step (by rfl) (N := 7) rfl (cs := vc zc) (t := 31) (by go_simp; rfl) ?_
                          intro gn hgn wn hbn hB
                          subst hgn
                          refine hK.out _ _ (below_step hS hB) (fun hs => ?_)
                          refine norm_ ?_ (hJ6_7 (wc.heap.size, s.2) wn ⟨below_step hS hB, ⟨hS.size, hbn⟩, ⟨hg7, blk_below hb7 hB⟩, (show _ ≠ _ from (fun h => by have := blk_lt hb7; simp only at h; omega))⟩)
                          first | (simp only [putAll, Act.put, List.setIfInBounds_toArray, List.set_cons_zero, List.set_cons_succ]; done) | (simp only [putAll, Act.put, List.setIfInBounds_toArray, List.set_cons_zero, List.set_cons_succ]; rfl)
                    · skip
                      rintro s wc ⟨hS, ⟨hg6, hb6⟩⟩
                      refine norm_ (a' := ?_) ?_ ?_
                      rotate_left
                      · simp only [putAll, Act.put, List.setIfInBounds_toArray, List.set_cons_zero, List.set_cons_succ]
                        rfl
                      refine two_ (i := 3) (j := 7) (Ni := some 15) (Nj := some 8) #[true, true, true, true, true, false, true, false, false, false] #[true, true, true, false, true, false, true, true, false, false] rfl rfl rfl rfl (by kernel_rfl) (by decide) (by decide) (fun K hK => ?_) (fun K hK => ?_)
                      · skip
                        refine call_ 17 _ (by rfl) rfl (by go_simp; rfl) ?_
                        refine (enter_calls c n tv _ hf.st.1 hf.st.2).mono ?_
                        rintro e wn ⟨rfl, hB⟩
                        rw [HD.out]
                        refine ⟨_, rfl, ?_⟩
                        refine hK.out _ _ (below_step hS hB) (fun hs => ?_)
                        refine norm_ ?_ (hJ3_6 (s.1, s.2) wn ⟨below_step hS hB, ⟨hg6, blk_below hb6 hB⟩⟩)
                        first | (simp only [putAll, Act.put, List.setIfInBounds_toArray, List.set_cons_zero, List.set_cons_succ]; done) | (simp only [putAll, Act.put, List.setIfInBounds_toArray, List.set_cons_zero, List.set_cons_succ]; rfl)
                      · skip
                        refine box_step (by rfl) (N := 8) rfl (cs := vc zc) (t := 31) (by go_simp; rfl) ?_
                        intro gn hgn wn hbn hB
                        subst hgn
                        refine hK.out _ _ (below_step hS hB) (fun hs => ?_)
                        refine norm_ ?_ (hJ6_7 (s.1, wc.heap.size) wn ⟨below_step hS hB, ⟨hg6, blk_below hb6 hB⟩, ⟨hS.size, hbn⟩, (show _ ≠ _ from (fun h => by have := blk_lt hb6; simp only at h; omega))⟩)
                        first | (simp only [putAll, Act.put, List.setIfInBounds_toArray, List.set_cons_zero, List.set_cons_succ]; done) | (simp only [putAll, Act.put, List.setIfInBounds_toArray, List.set_cons_zero, List.set_cons_succ]; rfl)
                  · skip
                    intro s wc hS
                    refine norm_ (a' := ?_) ?_ ?_
                    rotate_left
                    · simp only [putAll, Act.put, List.setIfInBounds_toArray, List.set_cons_zero, List.set_cons_succ]
                      rfl
                    refine three_ (i := 5) (j := 6) (k := 7) (Ni := some 17) (Nj := some 7) (Nk := some 8) #[true, true, true, true, true, true, false, false, false, false] #[true, true, true, true, true, false, true, false, false, false] #[true, true, true, true, true, false, false, true, false, false] rfl rfl rfl rfl rfl rfl (by kernel_rfl) (by decide) (by decide) (by decide) (fun K hK => ?_) (fun K hK => ?_) (fun K hK => ?_)
                    · skip
                      refine call_ 19 _ (by rfl) rfl (by go_simp; rfl) ?_
                      refine (return_calls c _).mono ?_
                      rintro e wn ⟨rfl, hB⟩
                      rw [HR.out]
                      refine ⟨_, rfl, ?_⟩
                      refine hK.out _ _ (below_step hS hB) (fun hs => ?_)
                      refine norm_ ?_ (hJ3_5 (s.1, s.2) wn (below_step hS hB))
                      first | (simp only [putAll, Act.put, List.setIfInBounds_toArray, List.set_cons_zero, List.set_cons_succ]; done) | (simp only [putAll, Act.put, List.setIfInBounds_toArray, List.set_cons_zero, List.set_cons_succ]; rfl)
                    · skip
                      refine box_step (by rfl) (N := 7) rfl (cs := vc zc) (t := 31) (by go_simp; rfl) ?_
                      intro gn hgn wn hbn hB
                      subst hgn
                      refine hK.out _ _ (below_step hS hB) (fun hs => ?_)
                      refine norm_ ?_ (hJ3_6 (wc.heap.size, s.2) wn ⟨below_step hS hB, ⟨hS.size, hbn⟩⟩)
                      first | (simp only [putAll, Act.put, List.setIfInBounds_toArray, List.set_cons_zero, List.set_cons_succ]; done) | (simp only [putAll, Act.put, List.setIfInBounds_toArray, List.set_cons_zero, List.set_cons_succ]; rfl)
                    · skip
                      refine box_step (by rfl) (N := 8) rfl (cs := vc zc) (t := 31) (by go_simp; rfl) ?_
                      intro gn hgn wn hbn hB
                      subst hgn
                      refine hK.out _ _ (below_step hS hB) (fun hs => ?_)
                      refine norm_ ?_ (hJ3_7 (s.1, wc.heap.size) wn ⟨below_step hS hB, ⟨hS.size, hbn⟩⟩)
                      first | (simp only [putAll, Act.put, List.setIfInBounds_toArray, List.set_cons_zero, List.set_cons_succ]; done) | (simp only [putAll, Act.put, List.setIfInBounds_toArray, List.set_cons_zero, List.set_cons_succ]; rfl)
                · skip
                  rintro s wc ⟨hS, ⟨hg6, hb6⟩, ⟨hg7, hb7⟩, hne⟩
                  refine norm_ (a' := ?_) ?_ ?_
                  rotate_left
                  · simp only [putAll, Act.put, List.setIfInBounds_toArray, List.set_cons_zero, List.set_cons_succ]
                    rfl
                  refine one_ (i := 3) (N := some 15) #[true, true, true, true, true, false, true, true, false, false] rfl rfl (by kernel_rfl) (by decide) (fun K hK => ?_)
                  refine call_ 17 _ (by rfl) rfl (by go_simp; rfl) ?_
                  refine (enter_calls c n tv _ hf.st.1 hf.st.2).mono ?_
                  rintro e wn ⟨rfl, hB⟩
                  rw [HD.out]
                  refine ⟨_, rfl, ?_⟩
                  refine hK.out _ _ (below_step hS hB) (fun hs => ?_)
                  refine norm_ ?_ (hJ3_6_7 (s.1, s.2) wn ⟨below_step hS hB, ⟨hg6, blk_below hb6 hB⟩, ⟨hg7, blk_below hb7 hB⟩, hne⟩)
                  first | (simp only [putAll, Act.put, List.setIfInBounds_toArray, List.set_cons_zero, List.set_cons_succ]; done) | (simp only [putAll, Act.put, List.setIfInBounds_toArray, List.set_cons_zero, List.set_cons_succ]; rfl)
              · skip
                rintro s wc ⟨hS, ⟨hg7, hb7⟩⟩
                refine norm_ (a' := ?_) ?_ ?_
                rotate_left
                · simp only [putAll, Act.put, List.setIfInBounds_toArray, List.set_cons_zero, List.set_cons_succ]
                  rfl
                refine two_ (i := 5) (j := 6) (Ni := some 17) (Nj := some 7) #[true, true, true, true, true, true, false, true, false, false] #[true, true, true, true, true, false, true, true, false, false] rfl rfl rfl rfl (by kernel_rfl) (by decide) (by decide) (fun K hK => ?_) (fun K hK => ?_)
                · skip
                  refine call_ 19 _ (by rfl) rfl (by go_simp; rfl) ?_
                  refine (return_calls c _).mono ?_
                  rintro e wn ⟨rfl, hB⟩
                  rw [HR.out]
                  refine ⟨_, rfl, ?_⟩
                  refine hK.out _ _ (below_step hS hB) (fun hs => ?_)
                  refine norm_ ?_ (hJ3_5_7 (s.1, s.2) wn ⟨below_step hS hB, ⟨hg7, blk_below hb7 hB⟩⟩)
                  first | (simp only [putAll, Act.put, List.setIfInBounds_toArray, List.set_cons_zero, List.set_cons_succ]; done) | (simp only [putAll, Act.put, List.setIfInBounds_toArray, List.set_cons_zero, List.set_cons_succ]; rfl)
                · skip
                  refine box_step (by rfl) (N := 7) rfl (cs := vc zc) (t := 31) (by go_simp; rfl) ?_
                  intro gn hgn wn hbn hB
                  subst hgn
                  refine hK.out _ _ (below_step hS hB) (fun hs => ?_)
                  refine norm_ ?_ (hJ3_6_7 (wc.heap.size, s.2) wn ⟨below_step hS hB, ⟨hS.size, hbn⟩, ⟨hg7, blk_below hb7 hB⟩, (show _ ≠ _ from (fun h => by have := blk_lt hb7; simp only at h; omega))⟩)
                  first | (simp only [putAll, Act.put, List.setIfInBounds_toArray, List.set_cons_zero, List.set_cons_succ]; done) | (simp only [putAll, Act.put, List.setIfInBounds_toArray, List.set_cons_zero, List.set_cons_succ]; rfl)
            · skip
              rintro s wc ⟨hS, ⟨hg6, hb6⟩⟩
              refine norm_ (a' := ?_) ?_ ?_
              rotate_left
              · simp only [putAll, Act.put, List.setIfInBounds_toArray, List.set_cons_zero, List.set_cons_succ]
                rfl
              refine two_ (i := 5) (j := 7) (Ni := some 17) (Nj := some 8) #[true, true, true, true, true, true, true, false, false, false] #[true, true, true, true, true, false, true, true, false, false] rfl rfl rfl rfl (by kernel_rfl) (by decide) (by decide) (fun K hK => ?_) (fun K hK => ?_)
              · skip
                refine call_ 19 _ (by rfl) rfl (by go_simp; rfl) ?_
                refine (return_calls c _).mono ?_
                rintro e wn ⟨rfl, hB⟩
                rw [HR.out]
                refine ⟨_, rfl, ?_⟩
                refine hK.out _ _ (below_step hS hB) (fun hs => ?_)
                refine norm_ ?_ (hJ3_5_6 (s.1, s.2) wn ⟨below_step hS hB, ⟨hg6, blk_below hb6 hB⟩⟩)
                first | (simp only [putAll, Act.put, List.setIfInBounds_toArray, List.set_cons_zero, List.set_cons_succ]; done) | (simp only [putAll, Act.put, List.setIfInBounds_toArray, List.set_cons_zero, List.set_cons_succ]; rfl)
              · skip
                refine box_step (by rfl) (N := 8) rfl (cs := vc zc) (t := 31) (by go_simp; rfl) ?_
                intro gn hgn wn hbn hB
                subst hgn
                refine hK.out _ _ (below_step hS hB) (fun hs => ?_)
                refine norm_ ?_ (hJ3_6_7 (s.1, wc.heap.size) wn ⟨below_step hS hB, ⟨hg6, blk_below hb6 hB⟩, ⟨hS.size, hbn⟩, (show _ ≠ _ from (fun h => by have := blk_lt hb6; simp only at h; omega))⟩)
                first | (simp only [putAll, Act.put, List.setIfInBounds_toArray, List.set_cons_zero, List.set_cons_succ]; done) | (simp only [putAll, Act.put, List.setIfInBounds_toArray, List.set_cons_zero, List.set_cons_succ]; rfl)
          · skip
            intro s wc hS
            refine norm_ (a' := ?_) ?_ ?_
            rotate_left
            · simp only [putAll, Act.put, List.setIfInBounds_toArray, List.set_cons_zero, List.set_cons_succ]
              rfl
            refine two_ (i := 6) (j := 7) (Ni := some 7) (Nj := some 8) #[true, true, true, true, true, true, true, false, false, false] #[true, true, true, true, true, true, false, true, false, false] rfl rfl rfl rfl (by kernel_rfl) (by decide) (by decide) (fun K hK => ?_) (fun K hK => ?_)
            · skip
              refine box_step (by rfl) (N := 7) rfl (cs := vc zc) (t := 31) (by go_simp; rfl) ?_
              intro gn hgn wn hbn hB
              subst hgn
              refine hK.out _ _ (below_step hS hB) (fun hs => ?_)
              refine norm_ ?_ (hJ3_5_6 (wc.heap.size, s.2) wn ⟨below_step hS hB, ⟨hS.size, hbn⟩⟩)
              first | (simp only [putAll, Act.put, List.setIfInBounds_toArray, List.set_cons_zero, List.set_cons_succ]; done) | (simp only [putAll, Act.put, List.setIfInBounds_toArray, List.set_cons_zero, List.set_cons_succ]; rfl)
            · skip
              refine box_step (by rfl) (N := 8) rfl (cs := vc zc) (t := 31) (by go_simp; rfl) ?_
              intro gn hgn wn hbn hB
              subst hgn
              refine hK.out _ _ (below_step hS hB) (fun hs => ?_)
              refine norm_ ?_ (hJ3_5_7 (s.1, wc.heap.size) wn ⟨below_step hS hB, ⟨hS.size, hbn⟩⟩)
              first | (simp only [putAll, Act.put, List.setIfInBounds_toArray, List.set_cons_zero, List.set_cons_succ]; done) | (simp only [putAll, Act.put, List.setIfInBounds_toArray, List.set_cons_zero, List.set_cons_succ]; rfl)
        · skip
          rintro s wc ⟨hS, ⟨hg6, hb6⟩, ⟨hg7, hb7⟩, hne⟩
          refine norm_ (a' := ?_) ?_ ?_
          rotate_left
          · simp only [putAll, Act.put, List.setIfInBounds_toArray, List.set_cons_zero, List.set_cons_succ]
            rfl
          refine one_ (i := 5) (N := some 17) #[true, true, true, true, true, true, true, true, false, false] rfl rfl (by kernel_rfl) (by decide) (fun K hK => ?_)
          refine call_ 19 _ (by rfl) rfl (by go_simp; rfl) ?_
          refine (return_calls c _).mono ?_
          rintro e wn ⟨rfl, hB⟩
          rw [HR.out]
          refine ⟨_, rfl, ?_⟩
          refine hK.out _ _ (below_step hS hB) (fun hs => ?_)
          refine norm_ ?_ (hJ3_5_6_7 (s.1, s.2) wn ⟨below_step hS hB, ⟨hg6, blk_below hb6 hB⟩, ⟨hg7, blk_below hb7 hB⟩, hne⟩)
          first | (simp only [putAll, Act.put, List.setIfInBounds_toArray, List.set_cons_zero, List.set_cons_succ]; done) | (simp only [putAll, Act.put, List.setIfInBounds_toArray, List.set_cons_zero, List.set_cons_succ]; rfl)
      · skip
        rintro s wc ⟨hS, ⟨hg7, hb7⟩⟩
        refine norm_ (a' := ?_) ?_ ?_
        rotate_left
        · simp only [putAll, Act.put, List.setIfInBounds_toArray, List.set_cons_zero, List.set_cons_succ]
          rfl
        refine one_ (i := 6) (N := some 7) #[true, true, true, true, true, true, true, true, false, false] rfl rfl (by kernel_rfl) (by decide) (fun K hK => ?_)
        refine box_step (by rfl) (N := 7) rfl (cs := vc zc) (t := 31) (by go_simp; rfl) ?_
        intro gn hgn wn hbn hB
        subst hgn
        refine hK.out _ _ (below_step hS hB) (fun hs => ?_)
        refine norm_ ?_ (hJ3_5_6_7 (wc.heap.size, s.2) wn ⟨below_step hS hB, ⟨hS.size, hbn⟩, ⟨hg7, blk_below hb7 hB⟩, (show _ ≠ _ from (fun h => by have := blk_lt hb7; simp only at h; omega))⟩)
        first | (simp only [putAll, Act.put, List.setIfInBounds_toArray, List.set_cons_zero, List.set_cons_succ]; done) | (simp only [putAll, Act.put, List.setIfInBounds_toArray, List.set_cons_zero, List.set_cons_succ]; rfl)
    · skip
      rintro s wc ⟨hS, ⟨hg6, hb6⟩⟩
      refine norm_ (a' := ?_) ?_ ?_
      rotate_left
      · simp only [putAll, Act.put, List.setIfInBounds_toArray, List.set_cons_zero, List.set_cons_succ]
        rfl
      refine one_ (i := 7) (N := some 8) #[true, true, true, true, true, true, true, true, false, false] rfl rfl (by kernel_rfl) (by decide) (fun K hK => ?_)
      refine box_step (by rfl) (N := 8) rfl (cs := vc zc) (t := 31) (by go_simp; rfl) ?_
      intro gn hgn wn hbn hB
      subst hgn
      refine hK.out _ _ (below_step hS hB) (fun hs => ?_)
      refine norm_ ?_ (hJ3_5_6_7 (s.1, wc.heap.size) wn ⟨below_step hS hB, ⟨hg6, blk_below hb6 hB⟩, ⟨hS.size, hbn⟩, (show _ ≠ _ from (fun h => by have := blk_lt hb6; simp only at h; omega))⟩)
      first | (simp only [putAll, Act.put, List.setIfInBounds_toArray, List.set_cons_zero, List.set_cons_succ]; done) | (simp only [putAll, Act.put, List.setIfInBounds_toArray, List.set_cons_zero, List.set_cons_succ]; rfl)
  · skip
    rintro s wc ⟨hS, ⟨hg6, hb6⟩, ⟨hg7, hb7⟩, hne⟩
    refine norm_ (a' := ?_) ?_ ?_
    rotate_left
    · simp only [putAll, Act.put, List.setIfInBounds_toArray, List.set_cons_zero, List.set_cons_succ]
      rfl
    obtain ⟨g7, g8⟩ := s
    simp only at hg6 hb6 hg7 hb7 hne ⊢
    refine one_ (i := 8) (N := none) #[true, true, true, true, true, true, true, true, true, false] rfl rfl (by kernel_rfl) (by decide) (fun K hK => ?_)
    refine st_step (by rfl) _ _ rfl g7 d rfl rfl zc hb6 ?_
    refine hK.out _ _ (below_rowb hS hg6 (vc d)) (fun hs => ?_)
    clear hK K
    have hb7' := row_far hb7 (vc d) (Ne.symm hne)
    have hb6' := row_new hb6 (vc d)
    refine norm_ (a' := ?_) ?_ ?_
    rotate_left
    · show Act.put _ none _ = _
      simp only [Act.put]
      rfl
    refine one_ (i := 9) (N := none) #[true, true, true, true, true, true, true, true, true, true] rfl rfl (by kernel_rfl) (by decide) (fun K hK => ?_)
    refine st_step (by rfl) _ _ rfl g8 r rfl rfl zc hb7' ?_
    refine hK.out _ _ (below_rowb hs hg7 (vc r)) (fun hs2 => ?_)
    clear hK K
    refine norm_ (a' := ?_) ?_ ?_
    rotate_left
    · show Act.put _ none _ = _
      simp only [Act.put]
      rfl
    refine done_ (by kernel_rfl) ?_
    have DF := Aside0.mk (row_far hb6' (vc r) hne)
    have RF := Aside0.mk (row_new hb7' (vc r))
    have HF := Aside0.mk (below_step H1.out hs2)
    have BF := Aside0.mk (blk_below B1.out hs2)
    generalize hwf : (wc.setRow g7 (vc d)).setRow g8 (vc r) = wf at *
    clear hwf hs hs2 hb6' hb7' hb6 hb7 hS Hs
    have c33 := (blk_cell BF.out 33).trans (get33 c)
    have c25 := (blk_cell BF.out 25).trans (get25 c)
    have c30 := (blk_cell BF.out 30).trans (get30 c)
    have c24 := (blk_cell BF.out 24).trans (get24 c)
    have c28 := (blk_cell BF.out 28).trans (get28 c)
    have d33 := (blk_cell DF.out 33).trans (get33 d)
    rw [sd33] at d33
    have d24 := (blk_cell DF.out 24).trans (get24 d)
    rw [sd24] at d24
    have d28 := (blk_cell DF.out 28).trans (get28 d)
    rw [sd28] at d28
    have d25 := (blk_cell DF.out 25).trans (get25 d)
    rw [sd25] at d25
    have d26 := (blk_cell DF.out 26).trans (get26 d)
    rw [sd26] at d26
    have r33 := (blk_cell RF.out 33).trans (get33 r)
    rw [sr33] at r33
    have r24 := (blk_cell RF.out 24).trans (get24 r)
    rw [sr24] at r24
    clear sd33 sd24 sd28 sd25 sd26 sr33 sr24
    go_wp2_with fail
    go_ret
    exact ⟨rfl, HF.out⟩
theorem law (hf : Wf c) : Calls Try.prog 7 #[.agg (vc c), .int .i64 n, .int .u32 tv] w fun e w' => e = .returned (.bool true) ∧ Below w.heap.size w w' := by
  have ne : ∀ {a : Int} {b : Bool}, (a == 0) = b → (a != 0) = !b := fun h => by rw [bne, h]
  have b4 := bit4 hf.st.1 hf.st.2
  by_cases h0 : c.ha = 0
  · have p0 : (c.ha == 0) = true := by simp [h0]
    have er : returnC c = backC c := if_pos h0
    by_cases h1 : c.st / 4 % 2 = 1
    · have p1 : (Go.bits .and .u32 c.st 4 == 0) = false := by
        rw [b4, h1]
        rfl
      have ed : enterC c n tv = haltC c 2 := by
        unfold enterC
        rw [if_neg (by simp [h0]), if_pos h1]
      exact halts_trap c n tv w _ _ hf ⟨ed⟩ ⟨er⟩ p0 ((ne p0).trans rfl) p1 ((ne p1).trans rfl) rfl rfl (regsEq_self c) (ctlEq_self c)
    · have p1 : (Go.bits .and .u32 c.st 4 == 0) = true := by
        rw [b4, show (c.st / 4 % 2 == 1) = false from beq_eq_false_iff_ne.2 h1]
        rfl
      by_cases h2 : c.ve = 0
      · have ed : enterC c n tv = haltC c 3 := by
          unfold enterC
          rw [if_neg (by simp [h0]), if_neg h1, if_pos h2]
        exact halts_none c n tv w _ _ hf ⟨ed⟩ ⟨er⟩ p0 ((ne p0).trans rfl) p1 ((ne p1).trans rfl) (by simp [h2]) rfl rfl (regsEq_self c) (ctlEq_self c)
      · have ed : enterC c n tv = goC c n tv := by
          unfold enterC
          rw [if_neg (by simp [h0]), if_neg h1, if_neg h2]
        exact halts_goes c n tv w _ _ hf ⟨ed⟩ ⟨er⟩ p0 ((ne p0).trans rfl) p1 ((ne p1).trans rfl) (by simp [h2]) h0 rfl rfl rfl rfl h0 rfl
  · have p0 : (c.ha == 0) = false := by simp [h0]
    have ed : enterC c n tv = c := if_pos h0
    have er : returnC c = c := if_neg h0
    exact halts_ha c n tv w _ _ hf ⟨ed⟩ ⟨er⟩ p0 ((ne p0).trans rfl) (cxEq_self c) (cxEq_self c)
end
theorem walk (v0 : Value) (n tv : Int) (w : World) (h0 : ∃ c : Cx, v0 = .agg (vc c) ∧ Wf c) (h1 : (Lit.int .i64 n).wf = true) (h2 : (Lit.int .u32 tv).wf = true) :
    Calls Try.prog 7 #[v0, .int .i64 n, .int .u32 tv] w fun e w' => e = .returned (.bool true) ∧ Below w.heap.size w w' := by
  obtain ⟨c, rfl, hf⟩ := h0
  exact law c n tv w hf
end Go.Proofs.Ythoafohndinbeaa.LawHalts
