/- bulkheadref13.Same of two images that are alike. -/
import Derived.Test.YtiinflgoflkomaaLoadSame
namespace Go.Proofs.Ytiinflgoflkomaa.LoadSame2
open Go.RowKit Go.Proofs.Ytiinflgoflkomaa.PLoadChecks Go.Proofs.YtiinflgoflkomaaW.PrintWords Go.Proofs.YtiinflgoflkomaaW.PrintLast Go.Proofs.YtiinflgoflkomaaW.PrintMore Go.Proofs.Ytiinflgoflkomaa.Aid Go.Proofs.Ytiinflgoflkomaa.LoadF
set_option linter.unusedVariables false
set_option linter.unusedSimpArgs false
theorem cell_below {w w' : World} (h : Below w.heap.size w w') {a : Addr} {v : Value} (hc : w.cell? a = some v) : w'.cell? a = some v := by
  rw [h.cell (World.block_lt_of_cell? w a hc)]
  exact hc
set_option maxHeartbeats 1600000 in
set_option maxRecDepth 100000 in
theorem same_calls (A0 A1 : Option Addr) (c0 c1 : Nat) (a : Int) (l : List S45) (w : World) (hr0 : Kd.C k45 w A0 l.length l) (hc0 : l.length ≤ c0) (hr1 : Kd.C k45 w A1 l.length l) (hc1 : l.length ≤ c1) (hl : l.length < 140737488355328) :
    Calls Try.prog 17 #[.agg #[.int .u32 a, .slice A0 l.length c0], .agg #[.int .u32 a, .slice A1 l.length c1]] w fun e w' => e = .returned (.bool true) ∧ Below w.heap.size w w' := by
  have HR0 := Aside0.mk hr0
  have HR1 := Aside0.mk hr1
  have HL := Aside0.mk hl
  have HB := Aside0.mk (Below.refl w.heap.size w)
  have ea : (a != a) = false := by simp
  have en : ((l.length : Int) != (l.length : Int)) = false := by simp
  clear hr0 hc0 hr1 hc1 hl
  go_enter Try.func17, Try.ntmps17
  go_wp2_with (first | ((with_reducible refine gate_dst (N := 2) rfl ?_); refine box_event ?hg (N := 2) ?hd (cs := #[.int .u32 a, .slice A0 l.length c0]) (t := 25) ?hr ?_; (case hd => rfl); (case hg => rfl); (case hr => first | (go_simp; done) | (go_simp; rfl)); intro g2 hg w2 hbox hb; have BK2 := Aside0.mk hbox; have HB := Aside0.mk (below_step HB.out hb); have GE2 := Aside0.mk (show w.heap.size ≤ g2 by rw [hg]; exact Nat.le_refl _); clear hg hbox hb) | ((with_reducible refine gate_dst (N := 3) rfl ?_); refine box_event ?hg (N := 3) ?hd (cs := #[.int .u32 a, .slice A1 l.length c1]) (t := 25) ?hr ?_; (case hd => rfl); (case hg => rfl); (case hr => first | (go_simp; done) | (go_simp; rfl)); intro g3 hg w3 hbox hb; have GE3 := Aside0.mk (show w.heap.size ≤ g3 by rw [hg]; exact HB.out.size); have NE := Aside0.mk (show g2 ≠ g3 by rw [hg]; have := blk_lt BK2.out; omega); have BK2 := Aside0.mk (blk_below BK2.out hb); have BK3 := Aside0.mk hbox; have HB := Aside0.mk (below_step HB.out hb); clear hg hbox hb; have c20 : w3.cell? ⟨g2, 0, none⟩ = some (.int .u32 a) := (blk_cell BK2.out 0).trans rfl; have c21 : w3.cell? ⟨g2, 1, none⟩ = some (.slice A0 l.length c0) := (blk_cell BK2.out 1).trans rfl; have c30 : w3.cell? ⟨g3, 0, none⟩ = some (.int .u32 a) := (blk_cell BK3.out 0).trans rfl; have c31 : w3.cell? ⟨g3, 1, none⟩ = some (.slice A1 l.length c1) := (blk_cell BK3.out 1).trans rfl))
  go_loopg [5] l.length (fun k v5 w' => ∃ i : Nat, v5 = .int .i64 (i : Int) ∧ Aside0 (i ≤ l.length ∧ k = l.length - i) ∧ Aside0 (w'.heap[g2]? = some (.cells #[.int .u32 a, .slice A0 l.length c0] 25 (0, 0))) ∧ Aside0 (w'.heap[g3]? = some (.cells #[.int .u32 a, .slice A1 l.length c1] 25 (0, 0))) ∧ Aside0 (Below w.heap.size w w'))
  case atStart => exact ⟨0, rfl, ⟨Nat.zero_le _, rfl⟩, BK2, BK3, HB⟩
  case round =>
    clear c20 c21 c30 c31 BK2 BK3 HB ea en
    obtain ⟨i, rfl, HI, BK2r, BK3r, HBr⟩ := hrel
    have hi0 := HI.out.1
    have c20 : wr.cell? ⟨g2, 0, none⟩ = some (.int .u32 a) := (blk_cell BK2r.out 0).trans rfl
    have c21 : wr.cell? ⟨g2, 1, none⟩ = some (.slice A0 l.length c0) := (blk_cell BK2r.out 1).trans rfl
    have c30 : wr.cell? ⟨g3, 0, none⟩ = some (.int .u32 a) := (blk_cell BK3r.out 0).trans rfl
    have c31 : wr.cell? ⟨g3, 1, none⟩ = some (.slice A1 l.length c1) := (blk_cell BK3r.out 1).trans rfl
    by_cases c : i < l.length
    · have e1 : decide ((i : Int) < (l.length : Int)) = true := decide_eq_true (by omega)
      have p0 : 0 ≤ (i : Int) := by omega
      have q0 : (i : Int) < (l.length : Int) := by omega
      obtain ⟨ad, A2, c2, rfl, x0, x1, x2, l2, g2r⟩ := at_T45 (Kd.C_below HR0.out HBr.out) i p0 q0
      obtain ⟨ad', A2', c2', rfl, y0, y1, y2, l2', g2r'⟩ := at_T45 (Kd.C_below HR1.out HBr.out) i p0 q0
      rw [Int.toNat_natCast] at x0 x1 x2 y0 y1 y2
      generalize rd_T45 l (i : Int) = s at *
      obtain ⟨pg, pm, b⟩ := s
      have G2 := Aside0.mk g2r
      have G2' := Aside0.mk g2r'
      have hw : wrap64 ((i : Int) + 1) = ((i + 1 : Nat) : Int) := by
        have := HL.out
        rw [w64 (by omega) (by omega)]
        omega
      have HW := Aside0.mk hw
      have hi' := Aside0.mk c
      clear c hi0 hw g2r g2r'
      go_wp2_with fail
      have Hs0 := Aside0.mk (below_drew1 (Below.refl wr.heap.size wr))
      refine start_ (n := 14) (S := fun w' => Below wr.heap.size wr w') (ds := []) #[false, false, false, false, false, false, false, false, false, false, false, false, false, false] (by kernel_rfl) rfl rfl Hs0.out (fun hs => ?_)
      have Hs := Aside0.mk hs
      clear hs Hs0
      refine pure_ (i := 0) (N := some 29) (v := ?_) (a' := ?_) #[true, false, false, false, false, false, false, false, false, false, false, false, false, false] rfl rfl (by kernel_rfl) (fun _ _ _ h => h) (Or.inl ⟨by rfl, ?_⟩) ?_ ?_
      rotate_left
      · intro w'
        go_simp
        with_reducible rfl
      rotate_left
      · simp only [Act.put, List.setIfInBounds_toArray, List.set_cons_zero, List.set_cons_succ]
        rfl
      refine take_ (i := 1) (N := some 30) (v := .slice (some ad) l.length c0) #[true, true, false, false, false, false, false, false, false, false, false, false, false, false] rfl rfl (by kernel_rfl) (fun _ _ _ h => h) (Or.inl ⟨by rfl, ?_⟩) ?_ (a' := ?_) ?_ ?_
      · intro w' hS
        have t0 := cell_below hS c21
        go_simp
      · exact Hs.out
      rotate_left
      · simp only [Act.put, List.setIfInBounds_toArray, List.set_cons_zero, List.set_cons_succ]
        rfl
      refine pure_ (i := 2) (N := some 31) (v := ?_) (a' := ?_) #[true, true, true, false, false, false, false, false, false, false, false, false, false, false] rfl rfl (by kernel_rfl) (fun _ _ _ h => h) (Or.inl ⟨by rfl, ?_⟩) ?_ ?_
      rotate_left
      · intro w'
        go_simp
        with_reducible rfl
      rotate_left
      · simp only [Act.put, List.setIfInBounds_toArray, List.set_cons_zero, List.set_cons_succ]
        rfl
      refine pure_ (i := 3) (N := some 32) (v := ?_) (a' := ?_) #[true, true, true, true, false, false, false, false, false, false, false, false, false, false] rfl rfl (by kernel_rfl) (fun _ _ _ h => h) (Or.inl ⟨by rfl, ?_⟩) ?_ ?_
      rotate_left
      · intro w'
        go_simp
        with_reducible rfl
      rotate_left
      · simp only [Act.put, List.setIfInBounds_toArray, List.set_cons_zero, List.set_cons_succ]
        rfl
      refine take_ (i := 4) (N := some 33) (v := .agg #[.int .i64 pg, .int .i64 pm, .slice A2 b.length c2]) #[true, true, true, true, true, false, false, false, false, false, false, false, false, false] rfl rfl (by kernel_rfl) (fun _ _ _ h => h) (Or.inl ⟨by rfl, ?_⟩) ?_ (a' := ?_) ?_ ?_
      · intro w' hS
        have t0 := cell_below hS x0
        have t1 := cell_below hS x1
        have t2 := cell_below hS x2
        go_simp
      · exact Hs.out
      rotate_left
      · simp only [Act.put, List.setIfInBounds_toArray, List.set_cons_zero, List.set_cons_succ]
        rfl
      refine pure_ (i := 5) (N := some 34) (v := ?_) (a' := ?_) #[true, true, true, true, true, true, false, false, false, false, false, false, false, false] rfl rfl (by kernel_rfl) (fun _ _ _ h => h) (Or.inl ⟨by rfl, ?_⟩) ?_ ?_
      rotate_left
      · intro w'
        go_simp
        with_reducible rfl
      rotate_left
      · simp only [Act.put, List.setIfInBounds_toArray, List.set_cons_zero, List.set_cons_succ]
        rfl
      refine take_ (i := 6) (N := some 35) (v := .slice (some ad') l.length c1) #[true, true, true, true, true, true, true, false, false, false, false, false, false, false] rfl rfl (by kernel_rfl) (fun _ _ _ h => h) (Or.inl ⟨by rfl, ?_⟩) ?_ (a' := ?_) ?_ ?_
      · intro w' hS
        have t0 := cell_below hS c31
        go_simp
      · exact Hs.out
      rotate_left
      · simp only [Act.put, List.setIfInBounds_toArray, List.set_cons_zero, List.set_cons_succ]
        rfl
      refine pure_ (i := 7) (N := some 36) (v := ?_) (a' := ?_) #[true, true, true, true, true, true, true, true, false, false, false, false, false, false] rfl rfl (by kernel_rfl) (fun _ _ _ h => h) (Or.inl ⟨by rfl, ?_⟩) ?_ ?_
      rotate_left
      · intro w'
        go_simp
        with_reducible rfl
      rotate_left
      · simp only [Act.put, List.setIfInBounds_toArray, List.set_cons_zero, List.set_cons_succ]
        rfl
      refine pure_ (i := 8) (N := some 37) (v := ?_) (a' := ?_) #[true, true, true, true, true, true, true, true, true, false, false, false, false, false] rfl rfl (by kernel_rfl) (fun _ _ _ h => h) (Or.inl ⟨by rfl, ?_⟩) ?_ ?_
      rotate_left
      · intro w'
        go_simp
        with_reducible rfl
      rotate_left
      · simp only [Act.put, List.setIfInBounds_toArray, List.set_cons_zero, List.set_cons_succ]
        rfl
      refine take_ (i := 9) (N := some 38) (v := .agg #[.int .i64 pg, .int .i64 pm, .slice A2' b.length c2']) #[true, true, true, true, true, true, true, true, true, true, false, false, false, false] rfl rfl (by kernel_rfl) (fun _ _ _ h => h) (Or.inl ⟨by rfl, ?_⟩) ?_ (a' := ?_) ?_ ?_
      · intro w' hS
        have t0 := cell_below hS y0
        have t1 := cell_below hS y1
        have t2 := cell_below hS y2
        go_simp
      · exact Hs.out
      rotate_left
      · simp only [Act.put, List.setIfInBounds_toArray, List.set_cons_zero, List.set_cons_succ]
        rfl
      refine join_ (σ := Nat × Nat) 0 #[true, true, true, true, true, true, true, true, true, true, true, true, true, true] (fun s => [(6, Value.pointer (some ⟨s.1, 0, none⟩)), (7, Value.pointer (some ⟨s.2, 0, none⟩))]) (fun s w' => (Below wr.heap.size wr w') ∧ (wr.heap.size ≤ s.1 ∧ w'.heap[s.1]? = some (.cells #[.int .i64 pg, .int .i64 pm, .slice A2 b.length c2] 45 (0, 0))) ∧ (wr.heap.size ≤ s.2 ∧ w'.heap[s.2]? = some (.cells #[.int .i64 pg, .int .i64 pm, .slice A2' b.length c2'] 45 (0, 0))) ∧ (s.1 ≠ s.2)) ?_ ?_
      rotate_left
      · intro hJ10_11_12_13
        refine join_ (σ := Nat × Nat) 1 #[true, true, true, true, true, true, true, true, true, true, true, true, true, false] (fun s => [(6, Value.pointer (some ⟨s.1, 0, none⟩)), (7, Value.pointer (some ⟨s.2, 0, none⟩))]) (fun s w' => (Below wr.heap.size wr w') ∧ (wr.heap.size ≤ s.1 ∧ w'.heap[s.1]? = some (.cells #[.int .i64 pg, .int .i64 pm, .slice A2 b.length c2] 45 (0, 0))) ∧ (wr.heap.size ≤ s.2 ∧ w'.heap[s.2]? = some (.cells #[.int .i64 0, .int .i64 0, .slice none 0 0] 45 (0, 0))) ∧ (s.1 ≠ s.2)) ?_ ?_
        rotate_left
        · intro hJ10_11_12
          refine join_ (σ := Nat × Nat) 2 #[true, true, true, true, true, true, true, true, true, true, true, true, false, false] (fun s => [(6, Value.pointer (some ⟨s.1, 0, none⟩)), (7, Value.pointer (some ⟨s.2, 0, none⟩))]) (fun s w' => (Below wr.heap.size wr w') ∧ (wr.heap.size ≤ s.1 ∧ w'.heap[s.1]? = some (.cells #[.int .i64 0, .int .i64 0, .slice none 0 0] 45 (0, 0))) ∧ (wr.heap.size ≤ s.2 ∧ w'.heap[s.2]? = some (.cells #[.int .i64 0, .int .i64 0, .slice none 0 0] 45 (0, 0))) ∧ (s.1 ≠ s.2)) ?_ ?_
          rotate_left
          · intro hJ10_11
            refine join_ (σ := Nat × Nat) 3 #[true, true, true, true, true, true, true, true, true, true, true, false, false, false] (fun s => [(6, Value.pointer (some ⟨s.1, 0, none⟩))]) (fun s w' => (Below wr.heap.size wr w') ∧ (wr.heap.size ≤ s.1 ∧ w'.heap[s.1]? = some (.cells #[.int .i64 0, .int .i64 0, .slice none 0 0] 45 (0, 0)))) ?_ ?_
            rotate_left
            · intro hJ10
              refine join_ (σ := Nat × Nat) 3 #[true, true, true, true, true, true, true, true, true, true, false, true, false, false] (fun s => [(7, Value.pointer (some ⟨s.2, 0, none⟩))]) (fun s w' => (Below wr.heap.size wr w') ∧ (wr.heap.size ≤ s.2 ∧ w'.heap[s.2]? = some (.cells #[.int .i64 0, .int .i64 0, .slice none 0 0] 45 (0, 0)))) ?_ ?_
              rotate_left
              · intro hJ11
                have hS := Hs.out
                clear Hs
                generalize wr.drew = wc at *
                refine two_ (i := 10) (j := 11) (Ni := some 6) (Nj := some 7) #[true, true, true, true, true, true, true, true, true, true, true, false, false, false] #[true, true, true, true, true, true, true, true, true, true, false, true, false, false] rfl rfl rfl rfl (by kernel_rfl) (by decide) (by decide) (fun K hK => ?_) (fun K hK => ?_) 
                · skip
                  refine box_step (by rfl) (N := 6) rfl (cs := #[.int .i64 0, .int .i64 0, .slice none 0 0]) (t := 45) (by first | (go_simp; done) | (go_simp; rfl)) ?_
                  intro gn hgn wn hbn hB
                  subst hgn
                  refine hK.out _ _ (below_step hS hB) (fun hs => ?_)
                  refine norm_ ?_ (hJ10 (wc.heap.size, 0) wn ⟨below_step hS hB, ⟨hS.size, hbn⟩⟩)
                  first | (simp only [putAll, Act.put, List.setIfInBounds_toArray, List.set_cons_zero, List.set_cons_succ]; done) | (simp only [putAll, Act.put, List.setIfInBounds_toArray, List.set_cons_zero, List.set_cons_succ]; rfl)
                · skip
                  refine box_step (by rfl) (N := 7) rfl (cs := #[.int .i64 0, .int .i64 0, .slice none 0 0]) (t := 45) (by first | (go_simp; done) | (go_simp; rfl)) ?_
                  intro gn hgn wn hbn hB
                  subst hgn
                  refine hK.out _ _ (below_step hS hB) (fun hs => ?_)
                  refine norm_ ?_ (hJ11 (0, wc.heap.size) wn ⟨below_step hS hB, ⟨hS.size, hbn⟩⟩)
                  first | (simp only [putAll, Act.put, List.setIfInBounds_toArray, List.set_cons_zero, List.set_cons_succ]; done) | (simp only [putAll, Act.put, List.setIfInBounds_toArray, List.set_cons_zero, List.set_cons_succ]; rfl)
              · skip
                rintro s wc ⟨hS, ⟨hg11, hb11⟩⟩
                refine norm_ (a' := ?_) ?_ ?_
                rotate_left
                · simp only [putAll, Act.put, List.setIfInBounds_toArray, List.set_cons_zero, List.set_cons_succ]
                  rfl
                refine one_ (i := 10) (N := some 6) #[true, true, true, true, true, true, true, true, true, true, true, true, false, false] rfl rfl (by kernel_rfl) (by decide) (fun K hK => ?_)
                refine box_step (by rfl) (N := 6) rfl (cs := #[.int .i64 0, .int .i64 0, .slice none 0 0]) (t := 45) (by first | (go_simp; done) | (go_simp; rfl)) ?_
                intro gn hgn wn hbn hB
                subst hgn
                refine hK.out _ _ (below_step hS hB) (fun hs => ?_)
                refine norm_ ?_ (hJ10_11 (wc.heap.size, s.2) wn ⟨below_step hS hB, ⟨hS.size, hbn⟩, ⟨hg11, blk_below hb11 hB⟩, (show _ ≠ _ from (fun h => by have := blk_lt hb11; simp only at h; omega))⟩)
                first | (simp only [putAll, Act.put, List.setIfInBounds_toArray, List.set_cons_zero, List.set_cons_succ]; done) | (simp only [putAll, Act.put, List.setIfInBounds_toArray, List.set_cons_zero, List.set_cons_succ]; rfl)
            · skip
              rintro s wc ⟨hS, ⟨hg10, hb10⟩⟩
              refine norm_ (a' := ?_) ?_ ?_
              rotate_left
              · simp only [putAll, Act.put, List.setIfInBounds_toArray, List.set_cons_zero, List.set_cons_succ]
                rfl
              refine one_ (i := 11) (N := some 7) #[true, true, true, true, true, true, true, true, true, true, true, true, false, false] rfl rfl (by kernel_rfl) (by decide) (fun K hK => ?_)
              refine box_step (by rfl) (N := 7) rfl (cs := #[.int .i64 0, .int .i64 0, .slice none 0 0]) (t := 45) (by first | (go_simp; done) | (go_simp; rfl)) ?_
              intro gn hgn wn hbn hB
              subst hgn
              refine hK.out _ _ (below_step hS hB) (fun hs => ?_)
              refine norm_ ?_ (hJ10_11 (s.1, wc.heap.size) wn ⟨below_step hS hB, ⟨hg10, blk_below hb10 hB⟩, ⟨hS.size, hbn⟩, (show _ ≠ _ from (fun h => by have := blk_lt hb10; simp only at h; omega))⟩)
              first | (simp only [putAll, Act.put, List.setIfInBounds_toArray, List.set_cons_zero, List.set_cons_succ]; done) | (simp only [putAll, Act.put, List.setIfInBounds_toArray, List.set_cons_zero, List.set_cons_succ]; rfl)
          · skip
            rintro s wc ⟨hS, ⟨hg10, hb10⟩, ⟨hg11, hb11⟩, hne10_11⟩
            refine norm_ (a' := ?_) ?_ ?_
            rotate_left
            · simp only [putAll, Act.put, List.setIfInBounds_toArray, List.set_cons_zero, List.set_cons_succ]
              rfl
            refine one_ (i := 12) (N := none) #[true, true, true, true, true, true, true, true, true, true, true, true, true, false] rfl rfl (by kernel_rfl) (by decide) (fun K hK => ?_)
            have a0 := blk_cell hb10 0
            have f0 := blk_frozen hb10 0
            have a1 := blk_cell hb10 1
            have f1 := blk_frozen hb10 1
            have a2 := blk_cell hb10 2
            have f2 := blk_frozen hb10 2
            simp only [List.getElem?_toArray, List.getElem?_cons_zero, List.getElem?_cons_succ] at a0 a1 a2
            refine skip_ (w1 := (((wc.setCell ⟨s.1, 0, none⟩ (.int .i64 pg)).setCell ⟨s.1, 1, none⟩ (.int .i64 pm)).setCell ⟨s.1, 2, none⟩ (.slice A2 b.length c2))) (by rfl) rfl (by first | (go_simp; done) | (go_simp; rfl)) ?_
            refine hK.out _ _ (below_set (below_set (below_set hS hg10) hg10) hg10) (fun hs => ?_)
            refine norm_ ?_ (hJ10_11_12 (s.1, s.2) _ ⟨(below_set (below_set (below_set hS hg10) hg10) hg10), ⟨hg10, (blk_put (blk_put (blk_put hb10 0 (.int .i64 pg) rfl) 1 (.int .i64 pm) rfl) 2 (.slice A2 b.length c2) rfl)⟩, ⟨hg11, (blk_far (blk_far (blk_far hb11 (p := ⟨s.1, 0, none⟩) (Ne.symm hne10_11) (.int .i64 pg)) (p := ⟨s.1, 1, none⟩) (Ne.symm hne10_11) (.int .i64 pm)) (p := ⟨s.1, 2, none⟩) (Ne.symm hne10_11) (.slice A2 b.length c2))⟩, hne10_11⟩)
            first | (simp only [putAll, Act.put, List.setIfInBounds_toArray, List.set_cons_zero, List.set_cons_succ]; done) | (simp only [putAll, Act.put, List.setIfInBounds_toArray, List.set_cons_zero, List.set_cons_succ]; rfl)
        · skip
          rintro s wc ⟨hS, ⟨hg10, hb10⟩, ⟨hg11, hb11⟩, hne10_11⟩
          refine norm_ (a' := ?_) ?_ ?_
          rotate_left
          · simp only [putAll, Act.put, List.setIfInBounds_toArray, List.set_cons_zero, List.set_cons_succ]
            rfl
          refine one_ (i := 13) (N := none) #[true, true, true, true, true, true, true, true, true, true, true, true, true, true] rfl rfl (by kernel_rfl) (by decide) (fun K hK => ?_)
          have a0 := blk_cell hb11 0
          have f0 := blk_frozen hb11 0
          have a1 := blk_cell hb11 1
          have f1 := blk_frozen hb11 1
          have a2 := blk_cell hb11 2
          have f2 := blk_frozen hb11 2
          simp only [List.getElem?_toArray, List.getElem?_cons_zero, List.getElem?_cons_succ] at a0 a1 a2
          refine skip_ (w1 := (((wc.setCell ⟨s.2, 0, none⟩ (.int .i64 pg)).setCell ⟨s.2, 1, none⟩ (.int .i64 pm)).setCell ⟨s.2, 2, none⟩ (.slice A2' b.length c2'))) (by rfl) rfl (by first | (go_simp; done) | (go_simp; rfl)) ?_
          refine hK.out _ _ (below_set (below_set (below_set hS hg11) hg11) hg11) (fun hs => ?_)
          refine norm_ ?_ (hJ10_11_12_13 (s.1, s.2) _ ⟨(below_set (below_set (below_set hS hg11) hg11) hg11), ⟨hg10, (blk_far (blk_far (blk_far hb10 (p := ⟨s.2, 0, none⟩) hne10_11 (.int .i64 pg)) (p := ⟨s.2, 1, none⟩) hne10_11 (.int .i64 pm)) (p := ⟨s.2, 2, none⟩) hne10_11 (.slice A2' b.length c2'))⟩, ⟨hg11, (blk_put (blk_put (blk_put hb11 0 (.int .i64 pg) rfl) 1 (.int .i64 pm) rfl) 2 (.slice A2' b.length c2') rfl)⟩, hne10_11⟩)
          first | (simp only [putAll, Act.put, List.setIfInBounds_toArray, List.set_cons_zero, List.set_cons_succ]; done) | (simp only [putAll, Act.put, List.setIfInBounds_toArray, List.set_cons_zero, List.set_cons_succ]; rfl)
      · skip
        rintro s wc ⟨hS, ⟨hg10, hb10⟩, ⟨hg11, hb11⟩, hne10_11⟩
        refine norm_ (a' := ?_) ?_ ?_
        rotate_left
        · simp only [putAll, Act.put, List.setIfInBounds_toArray, List.set_cons_zero, List.set_cons_succ]
          rfl
        refine done_ (by kernel_rfl) ?_
        obtain ⟨g6, g7⟩ := s
        have hb6 : wc.heap[g6]? = some (.cells #[.int .i64 pg, .int .i64 pm, .slice A2 b.length c2] 45 (0, 0)) := hb10
        have hb7 : wc.heap[g7]? = some (.cells #[.int .i64 pg, .int .i64 pm, .slice A2' b.length c2'] 45 (0, 0)) := hb11
        have BK2 := Aside0.mk (blk_below BK2r.out hS)
        have BK3 := Aside0.mk (blk_below BK3r.out hS)
        have HB := Aside0.mk (below_step HBr.out hS)
        have cv := Kd.C_string (P := Try.prog) (A := A2) (c := c2) Try.underlying27 Try.underlying5 Try.underlying9 (Kd.C_below G2.out hS)
        have cv' := Kd.C_string (P := Try.prog) (A := A2') (c := c2') Try.underlying27 Try.underlying5 Try.underlying9 (Kd.C_below G2'.out hS)
        have e2 : (pg != pg) = false := by simp
        have e3 : (pm != pm) = false := by simp
        have e4 : ((strOfNums b).toList != (strOfNums b).toList) = false := by simp
        have d0 : wc.cell? ⟨g6, 0, none⟩ = some (.int .i64 pg) := (blk_cell hb6 0).trans rfl
        have d1 : wc.cell? ⟨g6, 1, none⟩ = some (.int .i64 pm) := (blk_cell hb6 1).trans rfl
        have d2 : wc.cell? ⟨g6, 2, none⟩ = some (.slice A2 b.length c2) := (blk_cell hb6 2).trans rfl
        have d3 : wc.cell? ⟨g7, 0, none⟩ = some (.int .i64 pg) := (blk_cell hb7 0).trans rfl
        have d4 : wc.cell? ⟨g7, 1, none⟩ = some (.int .i64 pm) := (blk_cell hb7 1).trans rfl
        have d5 : wc.cell? ⟨g7, 2, none⟩ = some (.slice A2' b.length c2') := (blk_cell hb7 2).trans rfl
        clear hS hg10 hg11 hb10 hb11 hne10_11 BK2r BK3r HBr c20 c21 c30 c31 x0 x1 x2 y0 y1 y2 hb6 hb7
        go_wp2
        go_roundg (l.length - (i + 1))
        case measure =>
          have := hi'.out
          have := HI.out.2
          omega
        case rel => exact ⟨i + 1, congrArg _ HW.out, ⟨hi'.out, rfl⟩, BK2, BK3, HB⟩
    · have e1 : decide ((i : Int) < (l.length : Int)) = false := decide_eq_false (by omega)
      go_wp2_with fail
      go_ret
      exact ⟨rfl, HBr.out⟩
end Go.Proofs.Ytiinflgoflkomaa.LoadSame2
