/- The law LoadChecks: the walk. -/
import Derived.Test.YtiinflgoflkomaaLoadFrames
import Derived.Test.YtiinflgoflkomaaLoadRFrames
import Derived.Test.YtiinflgoflkomaaLoadSpoil
import Derived.Test.YtiinflgoflkomaaLoadRec
namespace Go.Proofs.Ytiinflgoflkomaa.LawLChecks
open Go.RowKit Go.Proofs.Ytiinflgoflkomaa.PLoadChecks Go.Proofs.YtiinflgoflkomaaW.PrintWords Go.Proofs.YtiinflgoflkomaaW.PrintLast Go.Proofs.YtiinflgoflkomaaW.PrintMore Go.Proofs.Ytiinflgoflkomaa.Aid Go.Proofs.Ytiinflgoflkomaa.LoadF Go.Proofs.Ytiinflgoflkomaa.LoadSame2 Go.Proofs.Ytiinflgoflkomaa.LoadEnc Go.Proofs.Ytiinflgoflkomaa.LoadPure Go.Proofs.Ytiinflgoflkomaa.LoadPg Go.Proofs.Ytiinflgoflkomaa.LoadFr
set_option linter.unusedVariables false
set_option linter.unusedSimpArgs false
theorem lens_pages {a : Int} {l : List S45} : ∀ m ∈ LoadSpoil.lens (pagesL a l), m ≤ 256 := by
  intro m hm
  obtain ⟨p, hp, rfl⟩ := List.mem_map.1 hm
  unfold pagesL at hp
  split at hp
  · obtain ⟨s, hs, hp⟩ := List.mem_flatMap.1 hp
    obtain ⟨j, hj, rfl⟩ := List.mem_map.1 hp
    exact Nat.le_of_eq (pad_length (cut_le s.f2 j))
  · simp at hp
set_option maxHeartbeats 3200000 in
set_option maxRecDepth 100000 in
theorem law (A : Option Addr) (c : Nat) (a : Int) (l : List S45) (w : World) (hr : Kd.C k45 w A l.length l) (hc : l.length ≤ c) (hl : Sz l) (ha : 0 ≤ a ∧ a < 4294967296) :
    Calls Try.prog 3 #[.agg #[.int .u32 a, .slice A l.length c]] w fun e w' => e = .returned (.bool true) ∧ Below w.heap.size w w' := by
  have HR := Aside0.mk hr
  have HC := Aside0.mk hc
  have HL := Aside0.mk hl
  have HA := Aside0.mk ha
  have HB := Aside0.mk (Below.refl w.heap.size w)
  have HCP := Aside0.mk (Copy_f (a := a) hl)
  have HRE := Aside0.mk (rEncode_f (k := 30) ha.1 hl (Nat.le_refl _))
  obtain ⟨r, hr0⟩ : ∃ r, r = imgL a l := ⟨_, rfl⟩
  have HF := Aside0.mk ((Check_f (k := 20) ha.1 hl (Nat.le_refl _)).trans (congrArg some hr0.symm))
  have HRF := Aside0.mk ((rCheck_f (k := 20) ha.1 hl (Nat.le_refl _)).trans (congrArg some hr0.symm))
  obtain ⟨y, hy⟩ : ∃ y, y = encA a l := ⟨_, rfl⟩
  obtain ⟨z, hz⟩ : ∃ z, z = pagesL a l := ⟨_, rfl⟩
  obtain ⟨N, hN⟩ : ∃ N, N = framesL a l := ⟨_, rfl⟩
  have HZL : Aside0 (z.length ≤ 1024) := ⟨by rw [hz]; exact pagesL_length⟩
  have HZM : Aside0 (∀ m ∈ LoadSpoil.lens z, m ≤ 256) := ⟨by rw [hz]; exact lens_pages⟩
  have HP := Aside0.mk hz
  have HN := Aside0.mk hN
  have HY := Aside0.mk hy
  have HR0 := Aside0.mk hr0
  clear hr hc hl ha hr0 hy hz hN
  go_enter Try.func3, Try.ntmps3
  go_wp2_with (first | ((with_reducible refine gate_dst (N := 1) rfl ?_); refine box_event ?hg (N := 1) ?hd (cs := #[.int .u32 a, .slice A l.length c]) (t := 25) ?hr ?_; (case hd => rfl); (case hg => rfl); (case hr => first | (go_simp; done) | (go_simp; rfl)); intro g1 hg w1 hbox hb; have BK1 := Aside0.mk hbox; have HB := Aside0.mk (below_step HB.out hb); clear hg hbox hb; have c10 : w1.cell? ⟨g1, 0, none⟩ = some (.int .u32 a) := (blk_cell BK1.out 0).trans rfl; have c11 : w1.cell? ⟨g1, 1, none⟩ = some (.slice A l.length c) := (blk_cell BK1.out 1).trans rfl))
  refine (bulkheadref13_Copy.calls (l.length + 1) a A c l a l _ (Kd.C_below HR.out HB.out) HC.out HCP.out).mono ?_
  rintro e w2 ⟨v1, rfl, hs, hb⟩
  obtain ⟨A3, c3, rfl, hc3, hr3⟩ := Kd.S_reads hs
  have HC3 := Aside0.mk hc3
  have HO := Aside0.mk hr3
  have HO2 := HO
  have BK1 := Aside0.mk (blk_below BK1.out hb)
  have HB := Aside0.mk (below_step HB.out hb)
  have HB1 := HB
  clear hs hc3 hr3 hb c10 c11
  go_wp2_with (first | ((with_reducible refine gate_dst (N := 3) rfl ?_); refine box_event ?hg (N := 3) ?hd (cs := #[.int .u32 0, .slice none 0 0]) (t := 25) ?hr ?_; (case hd => rfl); (case hg => rfl); (case hr => first | (go_simp; done) | (go_simp; rfl)); intro g3 hg w3 hbox hb; have NE := Aside0.mk (show g1 ≠ g3 by rw [hg]; have := blk_lt BK1.out; omega); have GE3 := Aside0.mk (show w2.heap.size ≤ g3 by rw [hg]; exact Nat.le_refl _); have BK3 := Aside0.mk hbox; have BK1 := Aside0.mk (blk_below BK1.out hb); have HB2 := Aside0.mk hb; have HB := Aside0.mk (below_step HB.out hb); clear hg hbox hb; have a0 : w3.cell? ⟨g3, 0, none⟩ = some (.int .u32 0) := (blk_cell BK3.out 0).trans rfl; have a1 : w3.cell? ⟨g3, 1, none⟩ = some (.slice none 0 0) := (blk_cell BK3.out 1).trans rfl; have f0 := blk_frozen BK3.out 0; have f1 := blk_frozen BK3.out 1) | ((with_reducible refine gate_store (t := 25) (p := 3) (v := .tmp 10) rfl ?_); refine store_event (t := 25) (p := 3) (v := .tmp 10) (w1 := (w3.setCell ⟨g3, 0, none⟩ (.int .u32 a)).setCell ⟨g3, 1, none⟩ (.slice A3 l.length c3)) rfl rfl rfl ?hr ?_; (case hr => first | (go_simp; done) | (go_simp; rfl)); intro w4 hw; have q8 := blk_put BK3.out 0 (.int .u32 a) rfl; have BK1 : Aside0 (w4.heap[g1]? = some (.cells #[.int .u32 a, .slice A l.length c] 25 (0, 0))) := ⟨(by rw [hw]; exact blk_far (blk_far BK1.out (p := ⟨g3, 0, none⟩) NE.out (.int .u32 a)) (p := ⟨g3, 1, none⟩) NE.out _)⟩; have hb4 : Below w2.heap.size w2 w4 := (by rw [hw]; exact below_set (below_set HB2.out GE3.out) GE3.out); have HO := Aside0.mk (Kd.C_below HO2.out hb4); have HB : Aside0 (Below w.heap.size w w4) := ⟨below_step HB1.out hb4⟩; have BK3 : Aside0 (w4.heap[g3]? = some (.cells #[.int .u32 a, .slice A3 l.length c3] 25 (0, 0))) := ⟨(by rw [hw]; exact blk_put q8 1 _ rfl)⟩; clear hw q8 a0 a1 f0 f1 hb4 HB2; have c30 : w4.cell? ⟨g3, 0, none⟩ = some (.int .u32 a) := (blk_cell BK3.out 0).trans rfl; have c31 : w4.cell? ⟨g3, 1, none⟩ = some (.slice A3 l.length c3) := (blk_cell BK3.out 1).trans rfl))
  refine (LoadEnc.enc_calls A3 c3 a l _ HO.out HC3.out HL.out HA.out).mono ?_
  rintro e w5 ⟨v4, he, hs, hb⟩
  rw [← HY.out] at hs
  rw [← HR0.out] at he
  subst he
  obtain ⟨A4, c4, rfl, hc4, hr4⟩ := Kd.R_reads hs
  have HY4 := Aside0.mk hr4
  clear hs hc4 hr4 c30 c31
  have BK1 := Aside0.mk (blk_below BK1.out hb)
  have BK3 := Aside0.mk (blk_below BK3.out hb)
  have HO := Aside0.mk (Kd.C_below HO.out hb)
  have HB := Aside0.mk (below_step HB.out hb)
  have c10 : w5.cell? ⟨g1, 0, none⟩ = some (.int .u32 a) := (blk_cell BK1.out 0).trans rfl
  have c11 : w5.cell? ⟨g1, 1, none⟩ = some (.slice A l.length c) := (blk_cell BK1.out 1).trans rfl
  clear hb
  go_wp2_with fail
  have HRE2 := Aside0.mk (HRE.out.trans (show _ = some (y, r) by rw [HY.out, HR0.out]))
  refine (bulkheadref13_Encode.calls 30 a A c l y r _ (Kd.C_below HR.out HB.out) HC.out HRE2.out).mono ?_
  rintro e w6 ⟨v6, rfl, hs, hb⟩
  obtain ⟨A6, c6, rfl, hc6, hr6⟩ := Kd.R_reads hs
  have HY6 := Aside0.mk hr6
  clear hs hc6 hr6 c10 c11
  have BK1 := Aside0.mk (blk_below BK1.out hb)
  have BK3 := Aside0.mk (blk_below BK3.out hb)
  have HO := Aside0.mk (Kd.C_below HO.out hb)
  have HY4 := Aside0.mk (Kd.C_below HY4.out hb)
  have HB := Aside0.mk (below_step HB.out hb)
  have c30 : w6.cell? ⟨g3, 0, none⟩ = some (.int .u32 a) := (blk_cell BK3.out 0).trans rfl
  have c31 : w6.cell? ⟨g3, 1, none⟩ = some (.slice A3 l.length c3) := (blk_cell BK3.out 1).trans rfl
  clear hb
  go_wp2_with fail
  obtain ⟨w7, hw7⟩ : ∃ x, x = w6 := ⟨_, rfl⟩
  have BK17 : Aside0 (w7.heap[g1]? = some (.cells #[.int .u32 a, .slice A l.length c] 25 (0, 0))) := ⟨by rw [hw7]; exact BK1.out⟩
  have BK37 : Aside0 (w7.heap[g3]? = some (.cells #[.int .u32 a, .slice A3 l.length c3] 25 (0, 0))) := ⟨by rw [hw7]; exact BK3.out⟩
  have HO7 : Aside0 (Kd.C k45 w7 A3 l.length l) := ⟨by rw [hw7]; exact HO.out⟩
  have HB7 : Aside0 (Below w.heap.size w w7) := ⟨by rw [hw7]; exact HB.out⟩
  refine (LoadPages.pages_calls A3 c3 a l _ HO.out HC3.out HL.out HA.out).mono ?_
  rintro e w8 ⟨v8, rfl, hs, hb⟩
  rw [← HP.out] at hs
  obtain ⟨A8, c8, rfl, hc8, hr8⟩ := Kd.S_reads hs
  have HR8p := Aside0.mk hr8
  have HC8 := Aside0.mk hc8
  have HS8 : Aside0 (Kd.S k46 46 w8 w7.heap.size (fun _ => True) (.slice A8 z.length c8) z) := ⟨by rw [hw7]; exact hs⟩
  have HBP : Aside0 (Below w7.heap.size w7 w8) := ⟨by rw [hw7]; exact hb⟩
  clear hs hc8 hr8 c30 c31 hw7
  have BK1 := Aside0.mk (blk_below BK1.out hb)
  have BK3 := Aside0.mk (blk_below BK3.out hb)
  have HO := Aside0.mk (Kd.C_below HO.out hb)
  have HY4 := Aside0.mk (Kd.C_below HY4.out hb)
  have HY6 := Aside0.mk (Kd.C_below HY6.out hb)
  have HB := Aside0.mk (below_step HB.out hb)
  have c10 : w8.cell? ⟨g1, 0, none⟩ = some (.int .u32 a) := (blk_cell BK1.out 0).trans rfl
  have c11 : w8.cell? ⟨g1, 1, none⟩ = some (.slice A l.length c) := (blk_cell BK1.out 1).trans rfl
  have c30 : w8.cell? ⟨g3, 0, none⟩ = some (.int .u32 a) := (blk_cell BK3.out 0).trans rfl
  have c31 : w8.cell? ⟨g3, 1, none⟩ = some (.slice A3 l.length c3) := (blk_cell BK3.out 1).trans rfl
  clear hb
  have HR8 := Aside0.mk (Kd.C_below HR.out HB.out)
  go_wp2_with fail
  have Hs0 := Aside0.mk (below_drew1 (Below.refl w8.heap.size w8))
  refine start_ (n := 31) (S := fun w' => Below w8.heap.size w8 w') (ds := []) #[false, false, false, false, false, false, false, false, false, false, false, false, false, false, false, false, false, false, false, false, false, false, false, false, false, false, false, false, false, false, false] (by kernel_rfl) rfl rfl Hs0.out (fun hs => ?_)
  have Hs := Aside0.mk hs
  clear hs Hs0
  refine take_ (i := 0) (N := some 23) (v := .agg #[.int .u32 a, .slice A3 l.length c3]) #[true, false, false, false, false, false, false, false, false, false, false, false, false, false, false, false, false, false, false, false, false, false, false, false, false, false, false, false, false, false, false] rfl rfl (by kernel_rfl) (fun _ _ _ h => h) (Or.inl ⟨by rfl, ?_⟩) ?_ (a' := ?_) ?_ ?_
  · intro w' hS
    have t0 := cell_below hS c30
    have t1 := cell_below hS c31
    go_simp
  · exact Hs.out
  rotate_left
  · simp only [Act.put, List.setIfInBounds_toArray, List.set_cons_zero, List.set_cons_succ]
    rfl
  refine take_ (i := 2) (N := some 25) (v := .agg #[.int .u32 a, .slice A l.length c]) #[true, false, true, false, false, false, false, false, false, false, false, false, false, false, false, false, false, false, false, false, false, false, false, false, false, false, false, false, false, false, false] rfl rfl (by kernel_rfl) (fun _ _ _ h => h) (Or.inl ⟨by rfl, ?_⟩) ?_ (a' := ?_) ?_ ?_
  · intro w' hS
    have t0 := cell_below hS c10
    have t1 := cell_below hS c11
    go_simp
  · exact Hs.out
  rotate_left
  · simp only [Act.put, List.setIfInBounds_toArray, List.set_cons_zero, List.set_cons_succ]
    rfl
  refine one_ (i := 1) (N := some 24) #[true, true, true, false, false, false, false, false, false, false, false, false, false, false, false, false, false, false, false, false, false, false, false, false, false, false, false, false, false, false, false] rfl rfl (by kernel_rfl) (by decide) (fun K hK => ?_)
  refine call_ 10 _ (by rfl) rfl (by go_simp; rfl) ?_
  refine (load_Check.calls 20 a A3 c3 l r _ (Kd.C_below HO.out Hs.out) HC3.out HF.out).mono ?_
  rintro e wn ⟨rfl, hB⟩
  refine ⟨_, rfl, ?_⟩
  refine hK.out _ _ (below_step Hs.out hB) (fun hs => ?_)
  clear hK K hB Hs
  have Hs := Aside0.mk hs
  clear hs
  refine norm_ (a' := ?_) ?_ ?_
  rotate_left
  · show Act.put _ (some 24) _ = _
    simp only [Act.put, List.setIfInBounds_toArray, List.set_cons_zero, List.set_cons_succ]
    rfl
  refine one_ (i := 3) (N := some 26) #[true, true, true, true, false, false, false, false, false, false, false, false, false, false, false, false, false, false, false, false, false, false, false, false, false, false, false, false, false, false, false] rfl rfl (by kernel_rfl) (by decide) (fun K hK => ?_)
  refine call_ 11 _ (by rfl) rfl (by go_simp; rfl) ?_
  refine (bulkheadref13_Check.calls 20 a A c l r _ (Kd.C_below HR8.out Hs.out) HC.out HRF.out).mono ?_
  rintro e wn ⟨rfl, hB⟩
  refine ⟨_, rfl, ?_⟩
  refine hK.out _ _ (below_step Hs.out hB) (fun hs => ?_)
  clear hK K hB Hs
  have Hs := Aside0.mk hs
  clear hs
  refine norm_ (a' := ?_) ?_ ?_
  rotate_left
  · show Act.put _ (some 26) _ = _
    simp only [Act.put, List.setIfInBounds_toArray, List.set_cons_zero, List.set_cons_succ]
    rfl
  refine pure_ (i := 4) (N := some 27) (v := ?_) (a' := ?_) #[true, true, true, true, true, false, false, false, false, false, false, false, false, false, false, false, false, false, false, false, false, false, false, false, false, false, false, false, false, false, false] rfl rfl (by kernel_rfl) (fun _ _ _ h => h) (Or.inl ⟨by rfl, ?_⟩) ?_ ?_
  rotate_left
  · intro w'
    go_simp
    with_reducible rfl
  rotate_left
  · simp only [Act.put, List.setIfInBounds_toArray, List.set_cons_zero, List.set_cons_succ]
    rfl
  refine pure_ (i := 5) (N := some 28) (v := ?_) (a' := ?_) #[true, true, true, true, true, true, false, false, false, false, false, false, false, false, false, false, false, false, false, false, false, false, false, false, false, false, false, false, false, false, false] rfl rfl (by kernel_rfl) (fun _ _ _ h => h) (Or.inl ⟨by rfl, ?_⟩) ?_ ?_
  rotate_left
  · intro w'
    go_simp
    with_reducible rfl
  rotate_left
  · simp only [Act.put, List.setIfInBounds_toArray, List.set_cons_zero, List.set_cons_succ]
    rfl
  refine pure_ (i := 6) (N := some 29) (v := ?_) (a' := ?_) #[true, true, true, true, true, true, true, false, false, false, false, false, false, false, false, false, false, false, false, false, false, false, false, false, false, false, false, false, false, false, false] rfl rfl (by kernel_rfl) (fun _ _ _ h => h) (Or.inl ⟨by rfl, ?_⟩) ?_ ?_
  rotate_left
  · intro w'
    go_simp
    with_reducible rfl
  rotate_left
  · simp only [Act.put, List.setIfInBounds_toArray, List.set_cons_zero, List.set_cons_succ]
    rfl
  refine pure_ (i := 7) (N := some 30) (v := ?_) (a' := ?_) #[true, true, true, true, true, true, true, true, false, false, false, false, false, false, false, false, false, false, false, false, false, false, false, false, false, false, false, false, false, false, false] rfl rfl (by kernel_rfl) (fun _ _ _ h => h) (Or.inl ⟨by rfl, ?_⟩) ?_ ?_
  rotate_left
  · intro w'
    go_simp
    with_reducible rfl
  rotate_left
  · simp only [Act.put, List.setIfInBounds_toArray, List.set_cons_zero, List.set_cons_succ]
    rfl
  refine pure_ (i := 8) (N := some 31) (v := ?_) (a' := ?_) #[true, true, true, true, true, true, true, true, true, false, false, false, false, false, false, false, false, false, false, false, false, false, false, false, false, false, false, false, false, false, false] rfl rfl (by kernel_rfl) (fun _ _ _ h => h) (Or.inl ⟨by rfl, ?_⟩) ?_ ?_
  rotate_left
  · intro w'
    go_simp
    with_reducible rfl
  rotate_left
  · simp only [Act.put, List.setIfInBounds_toArray, List.set_cons_zero, List.set_cons_succ]
    rfl
  refine pure_ (i := 9) (N := some 32) (v := ?_) (a' := ?_) #[true, true, true, true, true, true, true, true, true, true, false, false, false, false, false, false, false, false, false, false, false, false, false, false, false, false, false, false, false, false, false] rfl rfl (by kernel_rfl) (fun _ _ _ h => h) (Or.inl ⟨by rfl, ?_⟩) ?_ ?_
  rotate_left
  · intro w'
    go_simp
    with_reducible rfl
  rotate_left
  · simp only [Act.put, List.setIfInBounds_toArray, List.set_cons_zero, List.set_cons_succ]
    rfl
  refine pure_ (i := 10) (N := some 33) (v := ?_) (a' := ?_) #[true, true, true, true, true, true, true, true, true, true, true, false, false, false, false, false, false, false, false, false, false, false, false, false, false, false, false, false, false, false, false] rfl rfl (by kernel_rfl) (fun _ _ _ h => h) (Or.inl ⟨by rfl, ?_⟩) ?_ ?_
  rotate_left
  · intro w'
    go_simp
    with_reducible rfl
  rotate_left
  · simp only [Act.put, List.setIfInBounds_toArray, List.set_cons_zero, List.set_cons_succ]
    rfl
  refine pure_ (i := 11) (N := some 34) (v := ?_) (a' := ?_) #[true, true, true, true, true, true, true, true, true, true, true, true, false, false, false, false, false, false, false, false, false, false, false, false, false, false, false, false, false, false, false] rfl rfl (by kernel_rfl) (fun _ _ _ h => h) (Or.inl ⟨by rfl, ?_⟩) ?_ ?_
  rotate_left
  · intro w'
    go_simp
    with_reducible rfl
  rotate_left
  · simp only [Act.put, List.setIfInBounds_toArray, List.set_cons_zero, List.set_cons_succ]
    rfl
  refine take_ (i := 12) (N := some 35) (v := .string (strOfNums y)) #[true, true, true, true, true, true, true, true, true, true, true, true, true, false, false, false, false, false, false, false, false, false, false, false, false, false, false, false, false, false, false] rfl rfl (by kernel_rfl) (fun _ _ _ h => h) (Or.inl ⟨by rfl, ?_⟩) ?_ (a' := ?_) ?_ ?_
  · intro w' hS
    have cv := Kd.C_string (P := Try.prog) (A := A4) (c := c4) Try.underlying27 Try.underlying5 Try.underlying9 (Kd.C_below HY4.out hS)
    go_simp
  · exact Hs.out
  rotate_left
  · simp only [Act.put, List.setIfInBounds_toArray, List.set_cons_zero, List.set_cons_succ]
    rfl
  refine pure_ (i := 13) (N := some 36) (v := ?_) (a' := ?_) #[true, true, true, true, true, true, true, true, true, true, true, true, true, true, false, false, false, false, false, false, false, false, false, false, false, false, false, false, false, false, false] rfl rfl (by kernel_rfl) (fun _ _ _ h => h) (Or.inl ⟨by rfl, ?_⟩) ?_ ?_
  rotate_left
  · intro w'
    go_simp
    with_reducible rfl
  rotate_left
  · simp only [Act.put, List.setIfInBounds_toArray, List.set_cons_zero, List.set_cons_succ]
    rfl
  refine take_ (i := 14) (N := some 37) (v := .string (strOfNums y)) #[true, true, true, true, true, true, true, true, true, true, true, true, true, true, true, false, false, false, false, false, false, false, false, false, false, false, false, false, false, false, false] rfl rfl (by kernel_rfl) (fun _ _ _ h => h) (Or.inl ⟨by rfl, ?_⟩) ?_ (a' := ?_) ?_ ?_
  · intro w' hS
    have cv := Kd.C_string (P := Try.prog) (A := A6) (c := c6) Try.underlying27 Try.underlying5 Try.underlying9 (Kd.C_below HY6.out hS)
    go_simp
  · exact Hs.out
  rotate_left
  · simp only [Act.put, List.setIfInBounds_toArray, List.set_cons_zero, List.set_cons_succ]
    rfl
  refine pure_ (i := 15) (N := some 38) (v := ?_) (a' := ?_) #[true, true, true, true, true, true, true, true, true, true, true, true, true, true, true, true, false, false, false, false, false, false, false, false, false, false, false, false, false, false, false] rfl rfl (by kernel_rfl) (fun _ _ _ h => h) (Or.inl ⟨by rfl, ?_⟩) ?_ ?_
  rotate_left
  · intro w'
    go_simp
    with_reducible rfl
  rotate_left
  · simp only [Act.put, List.setIfInBounds_toArray, List.set_cons_zero, List.set_cons_succ]
    rfl
  refine pure_ (i := 16) (N := some 39) (v := ?_) (a' := ?_) #[true, true, true, true, true, true, true, true, true, true, true, true, true, true, true, true, true, false, false, false, false, false, false, false, false, false, false, false, false, false, false] rfl rfl (by kernel_rfl) (fun _ _ _ h => h) (Or.inl ⟨by rfl, ?_⟩) ?_ ?_
  rotate_left
  · intro w'
    go_simp
    with_reducible rfl
  rotate_left
  · simp only [Act.put, List.setIfInBounds_toArray, List.set_cons_zero, List.set_cons_succ]
    rfl
  refine pure_ (i := 17) (N := some 40) (v := ?_) (a' := ?_) #[true, true, true, true, true, true, true, true, true, true, true, true, true, true, true, true, true, true, false, false, false, false, false, false, false, false, false, false, false, false, false] rfl rfl (by kernel_rfl) (fun _ _ _ h => h) (Or.inl ⟨by rfl, ?_⟩) ?_ ?_
  rotate_left
  · intro w'
    go_simp
    with_reducible rfl
  rotate_left
  · simp only [Act.put, List.setIfInBounds_toArray, List.set_cons_zero, List.set_cons_succ]
    rfl
  refine pure_ (i := 18) (N := some 41) (v := ?_) (a' := ?_) #[true, true, true, true, true, true, true, true, true, true, true, true, true, true, true, true, true, true, true, false, false, false, false, false, false, false, false, false, false, false, false] rfl rfl (by kernel_rfl) (fun _ _ _ h => h) (Or.inl ⟨by rfl, ?_⟩) ?_ ?_
  rotate_left
  · intro w'
    go_simp
    with_reducible rfl
  rotate_left
  · simp only [Act.put, List.setIfInBounds_toArray, List.set_cons_zero, List.set_cons_succ]
    rfl
  refine take_ (i := 19) (N := some 42) (v := .agg #[.int .u32 a, .slice A l.length c]) #[true, true, true, true, true, true, true, true, true, true, true, true, true, true, true, true, true, true, true, true, false, false, false, false, false, false, false, false, false, false, false] rfl rfl (by kernel_rfl) (fun _ _ _ h => h) (Or.inl ⟨by rfl, ?_⟩) ?_ (a' := ?_) ?_ ?_
  · intro w' hS
    have t0 := cell_below hS c10
    have t1 := cell_below hS c11
    go_simp
  · exact Hs.out
  rotate_left
  · simp only [Act.put, List.setIfInBounds_toArray, List.set_cons_zero, List.set_cons_succ]
    rfl
  refine one_ (i := 20) (N := some 43) #[true, true, true, true, true, true, true, true, true, true, true, true, true, true, true, true, true, true, true, true, true, false, false, false, false, false, false, false, false, false, false] rfl rfl (by kernel_rfl) (by decide) (fun K hK => ?_)
  refine call_ 13 _ (by rfl) rfl (by go_simp; rfl) ?_
  refine (LoadRPages.pages_calls A c a l _ (Kd.C_below HR8.out Hs.out) HC.out HL.out HA.out).mono ?_
  rintro e wn ⟨v9, rfl, hs9, hB⟩
  rw [← HP.out] at hs9
  obtain ⟨A9, c9, rfl, hc9, hr9⟩ := Kd.S_reads hs9
  have HR9 := Aside0.mk hr9
  have HC9 := Aside0.mk hc9
  clear hs9 hc9 hr9
  refine ⟨_, rfl, ?_⟩
  refine hK.out _ _ (below_step Hs.out hB) (fun hs => ?_)
  clear hK K hB Hs
  have Hs := Aside0.mk hs
  clear hs
  refine norm_ (a' := ?_) ?_ ?_
  rotate_left
  · show Act.put _ (some 43) _ = _
    simp only [Act.put, List.setIfInBounds_toArray, List.set_cons_zero, List.set_cons_succ]
    rfl
  refine one_ (i := 21) (N := some 44) #[true, true, true, true, true, true, true, true, true, true, true, true, true, true, true, true, true, true, true, true, true, true, false, false, false, false, false, false, false, false, false] rfl rfl (by kernel_rfl) (by decide) (fun K hK => ?_)
  refine call_ 12 _ (by rfl) rfl (by go_simp; rfl) ?_
  refine (LoadSame.pages_same A8 A9 c8 c9 z _ (Kd.C_below HR8p.out Hs.out) HC8.out HR9.out HC9.out (by have := HZL.out; omega)).mono ?_
  rintro e wk ⟨rfl, hd⟩
  have hB := hd.below
  clear hd
  refine ⟨_, rfl, ?_⟩
  refine hK.out _ _ (below_step Hs.out hB) (fun hs => ?_)
  clear hK K hB Hs
  have Hs := Aside0.mk hs
  clear hs
  refine norm_ (a' := ?_) ?_ ?_
  rotate_left
  · show Act.put _ (some 44) _ = _
    simp only [Act.put, List.setIfInBounds_toArray, List.set_cons_zero, List.set_cons_succ]
    rfl
  refine pure_ (i := 22) (N := some 45) (v := ?_) (a' := ?_) #[true, true, true, true, true, true, true, true, true, true, true, true, true, true, true, true, true, true, true, true, true, true, true, false, false, false, false, false, false, false, false] rfl rfl (by kernel_rfl) (fun _ _ _ h => h) (Or.inl ⟨by rfl, ?_⟩) ?_ ?_
  rotate_left
  · intro w'
    go_simp
    with_reducible rfl
  rotate_left
  · simp only [Act.put, List.setIfInBounds_toArray, List.set_cons_zero, List.set_cons_succ]
    rfl
  refine pure_ (i := 23) (N := some 46) (v := ?_) (a' := ?_) #[true, true, true, true, true, true, true, true, true, true, true, true, true, true, true, true, true, true, true, true, true, true, true, true, false, false, false, false, false, false, false] rfl rfl (by kernel_rfl) (fun _ _ _ h => h) (Or.inl ⟨by rfl, ?_⟩) ?_ ?_
  rotate_left
  · intro w'
    go_simp
    with_reducible rfl
  rotate_left
  · simp only [Act.put, List.setIfInBounds_toArray, List.set_cons_zero, List.set_cons_succ]
    rfl
  refine pure_ (i := 24) (N := some 47) (v := ?_) (a' := ?_) #[true, true, true, true, true, true, true, true, true, true, true, true, true, true, true, true, true, true, true, true, true, true, true, true, true, false, false, false, false, false, false] rfl rfl (by kernel_rfl) (fun _ _ _ h => h) (Or.inl ⟨by rfl, ?_⟩) ?_ ?_
  rotate_left
  · intro w'
    go_simp
    with_reducible rfl
  rotate_left
  · simp only [Act.put, List.setIfInBounds_toArray, List.set_cons_zero, List.set_cons_succ]
    rfl
  refine take_ (i := 25) (N := some 48) (v := .agg #[.int .u32 a, .slice A3 l.length c3]) #[true, true, true, true, true, true, true, true, true, true, true, true, true, true, true, true, true, true, true, true, true, true, true, true, true, true, false, false, false, false, false] rfl rfl (by kernel_rfl) (fun _ _ _ h => h) (Or.inl ⟨by rfl, ?_⟩) ?_ (a' := ?_) ?_ ?_
  · intro w' hS
    have t0 := cell_below hS c30
    have t1 := cell_below hS c31
    go_simp
  · exact Hs.out
  rotate_left
  · simp only [Act.put, List.setIfInBounds_toArray, List.set_cons_zero, List.set_cons_succ]
    rfl
  refine take_ (i := 27) (N := some 50) (v := .agg #[.int .u32 a, .slice A l.length c]) #[true, true, true, true, true, true, true, true, true, true, true, true, true, true, true, true, true, true, true, true, true, true, true, true, true, true, false, true, false, false, false] rfl rfl (by kernel_rfl) (fun _ _ _ h => h) (Or.inl ⟨by rfl, ?_⟩) ?_ (a' := ?_) ?_ ?_
  · intro w' hS
    have t0 := cell_below hS c10
    have t1 := cell_below hS c11
    go_simp
  · exact Hs.out
  rotate_left
  · simp only [Act.put, List.setIfInBounds_toArray, List.set_cons_zero, List.set_cons_succ]
    rfl
  refine one_ (i := 26) (N := some 49) #[true, true, true, true, true, true, true, true, true, true, true, true, true, true, true, true, true, true, true, true, true, true, true, true, true, true, true, true, false, false, false] rfl rfl (by kernel_rfl) (by decide) (fun K hK => ?_)
  refine call_ 14 _ (by rfl) rfl (by go_simp; rfl) ?_
  refine (LoadFrames.frames_calls A3 c3 a l _ (Kd.C_below HO.out Hs.out) HC3.out HL.out HA.out).mono ?_
  rintro e wk ⟨he, hB⟩
  rw [← HN.out] at he
  subst he
  refine ⟨_, rfl, ?_⟩
  refine hK.out _ _ (below_step Hs.out hB) (fun hs => ?_)
  clear hK K hB Hs
  have Hs := Aside0.mk hs
  clear hs
  refine norm_ (a' := ?_) ?_ ?_
  rotate_left
  · show Act.put _ (some 49) _ = _
    simp only [Act.put, List.setIfInBounds_toArray, List.set_cons_zero, List.set_cons_succ]
    rfl
  refine one_ (i := 28) (N := some 51) #[true, true, true, true, true, true, true, true, true, true, true, true, true, true, true, true, true, true, true, true, true, true, true, true, true, true, true, true, true, false, false] rfl rfl (by kernel_rfl) (by decide) (fun K hK => ?_)
  refine call_ 15 _ (by rfl) rfl (by go_simp; rfl) ?_
  refine (LoadRFrames.frames_calls A c a l _ (Kd.C_below HR8.out Hs.out) HC.out HL.out HA.out).mono ?_
  rintro e wk ⟨he, hB⟩
  rw [← HN.out] at he
  subst he
  refine ⟨_, rfl, ?_⟩
  refine hK.out _ _ (below_step Hs.out hB) (fun hs => ?_)
  clear hK K hB Hs
  have Hs := Aside0.mk hs
  clear hs
  refine norm_ (a' := ?_) ?_ ?_
  rotate_left
  · show Act.put _ (some 51) _ = _
    simp only [Act.put, List.setIfInBounds_toArray, List.set_cons_zero, List.set_cons_succ]
    rfl
  refine pure_ (i := 29) (N := some 52) (v := ?_) (a' := ?_) #[true, true, true, true, true, true, true, true, true, true, true, true, true, true, true, true, true, true, true, true, true, true, true, true, true, true, true, true, true, true, false] rfl rfl (by kernel_rfl) (fun _ _ _ h => h) (Or.inl ⟨by rfl, ?_⟩) ?_ ?_
  rotate_left
  · intro w'
    go_simp
    with_reducible rfl
  rotate_left
  · simp only [Act.put, List.setIfInBounds_toArray, List.set_cons_zero, List.set_cons_succ]
    rfl
  refine pure_ (i := 30) (N := some 53) (v := ?_) (a' := ?_) #[true, true, true, true, true, true, true, true, true, true, true, true, true, true, true, true, true, true, true, true, true, true, true, true, true, true, true, true, true, true, true] rfl rfl (by kernel_rfl) (fun _ _ _ h => h) (Or.inl ⟨by rfl, ?_⟩) ?_ ?_
  rotate_left
  · intro w'
    go_simp
    with_reducible rfl
  rotate_left
  · simp only [Act.put, List.setIfInBounds_toArray, List.set_cons_zero, List.set_cons_succ]
    rfl
  refine done_ (by kernel_rfl) ?_
  have BK1 := Aside0.mk (blk_below BK1.out Hs.out)
  have BK3 := Aside0.mk (blk_below BK3.out Hs.out)
  have HO := Aside0.mk (Kd.C_below HO.out Hs.out)
  have HB := Aside0.mk (below_step HB.out Hs.out)
  have HBP := Aside0.mk (HBP.out.trans (below_weak Hs.out HBP.out.size))
  have HS8 := Aside0.mk (Kd.S_below HS8.out Hs.out)
  clear Hs c10 c11 c30 c31
  go_wp2_with fail
  refine (LoadSpoil.spoil_calls _ z w7 _ HS8.out HBP.out HZL.out HZM.out).mono ?_
  rintro e wq ⟨rfl, hb⟩
  have BK1 := Aside0.mk (blk_below BK17.out hb)
  have BK3 := Aside0.mk (blk_below BK37.out hb)
  have HO := Aside0.mk (Kd.C_below HO7.out hb)
  have HB := Aside0.mk (below_step HB7.out hb)
  have HRq := Aside0.mk (Kd.C_below HR.out HB.out)
  clear hb
  have c10 : wq.cell? ⟨g1, 0, none⟩ = some (.int .u32 a) := (blk_cell BK1.out 0).trans rfl
  have c11 : wq.cell? ⟨g1, 1, none⟩ = some (.slice A l.length c) := (blk_cell BK1.out 1).trans rfl
  have c30 : wq.cell? ⟨g3, 0, none⟩ = some (.int .u32 a) := (blk_cell BK3.out 0).trans rfl
  have c31 : wq.cell? ⟨g3, 1, none⟩ = some (.slice A3 l.length c3) := (blk_cell BK3.out 1).trans rfl
  go_wp2_with fail
  have Hs0 := Aside0.mk (below_drew1 (Below.refl wq.heap.size wq))
  refine start_ (n := 11) (S := fun w' => Below wq.heap.size wq w') (ds := []) #[false, false, false, false, false, false, false, false, false, false, false] (by kernel_rfl) rfl rfl Hs0.out (fun hs => ?_)
  have Hs := Aside0.mk hs
  clear hs Hs0
  refine take_ (i := 0) (N := some 57) (v := .agg #[.int .u32 a, .slice A3 l.length c3]) #[true, false, false, false, false, false, false, false, false, false, false] rfl rfl (by kernel_rfl) (fun _ _ _ h => h) (Or.inl ⟨by rfl, ?_⟩) ?_ (a' := ?_) ?_ ?_
  · intro w' hS
    have t0 := cell_below hS c30
    have t1 := cell_below hS c31
    go_simp
  · exact Hs.out
  rotate_left
  · simp only [Act.put, List.setIfInBounds_toArray, List.set_cons_zero, List.set_cons_succ]
    rfl
  refine take_ (i := 1) (N := some 58) (v := .agg #[.int .u32 a, .slice A l.length c]) #[true, true, false, false, false, false, false, false, false, false, false] rfl rfl (by kernel_rfl) (fun _ _ _ h => h) (Or.inl ⟨by rfl, ?_⟩) ?_ (a' := ?_) ?_ ?_
  · intro w' hS
    have t0 := cell_below hS c10
    have t1 := cell_below hS c11
    go_simp
  · exact Hs.out
  rotate_left
  · simp only [Act.put, List.setIfInBounds_toArray, List.set_cons_zero, List.set_cons_succ]
    rfl
  refine one_ (i := 2) (N := some 59) #[true, true, true, false, false, false, false, false, false, false, false] rfl rfl (by kernel_rfl) (by decide) (fun K hK => ?_)
  refine call_ 17 _ (by rfl) rfl (by go_simp; rfl) ?_
  refine (LoadSame2.same_calls A3 A c3 c a l _ (Kd.C_below HO.out Hs.out) HC3.out (Kd.C_below HRq.out Hs.out) HC.out (by have := HL.out.1; omega)).mono ?_
  rintro e wn ⟨rfl, hB⟩
  refine ⟨_, rfl, ?_⟩
  refine hK.out _ _ (below_step Hs.out hB) (fun hs => ?_)
  clear hK K hB Hs
  have Hs := Aside0.mk hs
  clear hs
  refine norm_ (a' := ?_) ?_ ?_
  rotate_left
  · show Act.put _ (some 59) _ = _
    simp only [Act.put, List.setIfInBounds_toArray, List.set_cons_zero, List.set_cons_succ]
    rfl
  refine pure_ (i := 3) (N := some 60) (v := ?_) (a' := ?_) #[true, true, true, true, false, false, false, false, false, false, false] rfl rfl (by kernel_rfl) (fun _ _ _ h => h) (Or.inl ⟨by rfl, ?_⟩) ?_ ?_
  rotate_left
  · intro w'
    go_simp
    with_reducible rfl
  rotate_left
  · simp only [Act.put, List.setIfInBounds_toArray, List.set_cons_zero, List.set_cons_succ]
    rfl
  refine take_ (i := 4) (N := some 61) (v := .agg #[.int .u32 a, .slice A3 l.length c3]) #[true, true, true, true, true, false, false, false, false, false, false] rfl rfl (by kernel_rfl) (fun _ _ _ h => h) (Or.inl ⟨by rfl, ?_⟩) ?_ (a' := ?_) ?_ ?_
  · intro w' hS
    have t0 := cell_below hS c30
    have t1 := cell_below hS c31
    go_simp
  · exact Hs.out
  rotate_left
  · simp only [Act.put, List.setIfInBounds_toArray, List.set_cons_zero, List.set_cons_succ]
    rfl
  refine take_ (i := 6) (N := some 63) (v := .agg #[.int .u32 a, .slice A l.length c]) #[true, true, true, true, true, false, true, false, false, false, false] rfl rfl (by kernel_rfl) (fun _ _ _ h => h) (Or.inl ⟨by rfl, ?_⟩) ?_ (a' := ?_) ?_ ?_
  · intro w' hS
    have t0 := cell_below hS c10
    have t1 := cell_below hS c11
    go_simp
  · exact Hs.out
  rotate_left
  · simp only [Act.put, List.setIfInBounds_toArray, List.set_cons_zero, List.set_cons_succ]
    rfl
  refine one_ (i := 5) (N := some 62) #[true, true, true, true, true, true, true, false, false, false, false] rfl rfl (by kernel_rfl) (by decide) (fun K hK => ?_)
  refine call_ 9 _ (by rfl) rfl (by go_simp; rfl) ?_
  refine (LoadPages.pages_calls A3 c3 a l _ (Kd.C_below HO.out Hs.out) HC3.out HL.out HA.out).mono ?_
  rintro e wk ⟨v11, rfl, hs9, hB⟩
  rw [← HP.out] at hs9
  obtain ⟨A11, c11_, rfl, hc9, hr9⟩ := Kd.S_reads hs9
  have HR11 := Aside0.mk hr9
  have HC11 := Aside0.mk hc9
  clear hs9 hc9 hr9
  refine ⟨_, rfl, ?_⟩
  refine hK.out _ _ (below_step Hs.out hB) (fun hs => ?_)
  clear hK K hB Hs
  have Hs := Aside0.mk hs
  clear hs
  refine norm_ (a' := ?_) ?_ ?_
  rotate_left
  · show Act.put _ (some 62) _ = _
    simp only [Act.put, List.setIfInBounds_toArray, List.set_cons_zero, List.set_cons_succ]
    rfl
  refine one_ (i := 7) (N := some 64) #[true, true, true, true, true, true, true, true, false, false, false] rfl rfl (by kernel_rfl) (by decide) (fun K hK => ?_)
  refine call_ 13 _ (by rfl) rfl (by go_simp; rfl) ?_
  refine (LoadRPages.pages_calls A c a l _ (Kd.C_below HRq.out Hs.out) HC.out HL.out HA.out).mono ?_
  rintro e wk ⟨v12, rfl, hs9, hB⟩
  rw [← HP.out] at hs9
  obtain ⟨A12, c12_, rfl, hc9, hr9⟩ := Kd.S_reads hs9
  have HR12 := Aside0.mk hr9
  have HC12 := Aside0.mk hc9
  clear hs9 hc9 hr9
  have HR11 := Aside0.mk (Kd.C_below HR11.out hB)
  refine ⟨_, rfl, ?_⟩
  refine hK.out _ _ (below_step Hs.out hB) (fun hs => ?_)
  clear hK K hB Hs
  have Hs := Aside0.mk hs
  clear hs
  refine norm_ (a' := ?_) ?_ ?_
  rotate_left
  · show Act.put _ (some 64) _ = _
    simp only [Act.put, List.setIfInBounds_toArray, List.set_cons_zero, List.set_cons_succ]
    rfl
  refine one_ (i := 8) (N := some 65) #[true, true, true, true, true, true, true, true, true, false, false] rfl rfl (by kernel_rfl) (by decide) (fun K hK => ?_)
  refine call_ 12 _ (by rfl) rfl (by go_simp; rfl) ?_
  refine (LoadSame.pages_same A11 A12 c11_ c12_ z _ HR11.out HC11.out HR12.out HC12.out (by have := HZL.out; omega)).mono ?_
  rintro e wk ⟨rfl, hd⟩
  have hB := hd.below
  clear hd
  refine ⟨_, rfl, ?_⟩
  refine hK.out _ _ (below_step Hs.out hB) (fun hs => ?_)
  clear hK K hB Hs
  have Hs := Aside0.mk hs
  clear hs
  refine norm_ (a' := ?_) ?_ ?_
  rotate_left
  · show Act.put _ (some 65) _ = _
    simp only [Act.put, List.setIfInBounds_toArray, List.set_cons_zero, List.set_cons_succ]
    rfl
  refine pure_ (i := 9) (N := some 66) (v := ?_) (a' := ?_) #[true, true, true, true, true, true, true, true, true, true, false] rfl rfl (by kernel_rfl) (fun _ _ _ h => h) (Or.inl ⟨by rfl, ?_⟩) ?_ ?_
  rotate_left
  · intro w'
    go_simp
    with_reducible rfl
  rotate_left
  · simp only [Act.put, List.setIfInBounds_toArray, List.set_cons_zero, List.set_cons_succ]
    rfl
  refine pure_ (i := 10) (N := some 2) (v := ?_) (a' := ?_) #[true, true, true, true, true, true, true, true, true, true, true] rfl rfl (by kernel_rfl) (fun _ _ _ h => h) (Or.inl ⟨by rfl, ?_⟩) ?_ ?_
  rotate_left
  · intro w'
    go_simp
    with_reducible rfl
  rotate_left
  · simp only [Act.put, List.setIfInBounds_toArray, List.set_cons_zero, List.set_cons_succ]
    rfl
  refine done_ (by kernel_rfl) ?_
  go_wp2_with fail
  go_ret
  exact ⟨rfl, below_step HB.out Hs.out⟩
theorem walk (x : Int) (A : Option Addr) (n c : Nat) (S : Nat → AidImg.Sec) (w : World) (hx : (Lit.int .u32 x).wf = true) (hs : AidImg.Secs w A n S) (hy : n * 40 ≤ 140737488351232) (hc : n ≤ c) (hz : ∀ i, i < n → (S i).n ≤ 140737488351232) :
    Calls Try.prog 3 #[.agg #[.int .u32 x, .slice A n c]] w fun e w' => e = .returned (.bool true) ∧ Below w.heap.size w w' := by
  have hl := LoadRec.secs_length n S
  have hr := LoadRec.secs_row hs (by simp only [maxLen]; omega) hy
  have h := law A c x (LoadRec.secs n S) w hr (by rw [hl]; exact hc) ⟨by rw [hl]; omega, fun s hs => ?_⟩ (u32_bd hx)
  · rw [hl] at h
    exact h
  · obtain ⟨i, hi, rfl⟩ := List.mem_map.1 hs
    have := hz i (List.mem_range.1 hi)
    simp [LoadRec.sec]
    omega
end Go.Proofs.Ytiinflgoflkomaa.LawLChecks
