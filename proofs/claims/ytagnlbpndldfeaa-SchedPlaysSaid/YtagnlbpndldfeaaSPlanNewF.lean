/- What a call of plan.New comes to: the walk. -/
import Derived.Test.YtagnlbpndldfeaaPlanBase
import Derived.Deep.QuietTactic
import Derived.BigQuiet
import Derived.RegionTactic
namespace Go.Proofs.Ytagnlbpndldfeaa.SPlanNewF
open Go.RowKit Go.Proofs.Ytagnlbpndldfeaa.PSchedPlays Go.Proofs.YtagnlbpndldfeaaW.PrintWords Go.Proofs.YtagnlbpndldfeaaW.PrintLast Go.Proofs.YtagnlbpndldfeaaW.PrintMore Go.Proofs.Ytagnlbpndldfeaa.Aid Go.Proofs.Ytagnlbpndldfeaa.PlanBase
theorem info45s : (Try.prog.info? 45).map (fun i => (i.zero, i.size, i.bytes)) = some (some (.agg #[(.int .i64 0), (.int .i64 0), (.int .i64 0)]), 3, 24) := by kernel_rfl

/-- What a call of New comes to: the table stands in new blocks. -/
def NewPostF (T : Nat) (w : World) (M G : Int) (l : List S45) (E : Int) (e : Ending) (w' : World) : Prop :=
  Below w.heap.size w w' ∧ ((E ≠ 0 ∧ e = .returned (.tuple #[.pointer none, .int .i64 E])) ∨ (E = 0 ∧ ∃ g : Nat, e = .returned (.tuple #[.pointer (some ⟨g, 0, none⟩), .int .i64 0]) ∧ w.heap.size ≤ g ∧ g < w'.heap.size ∧ ∀ w2 : World, (∀ k, w.heap.size ≤ k → k < w'.heap.size → w2.heap[k]? = w'.heap[k]?) → Plan T w2 g M G l))
set_option maxHeartbeats 1600000 in
set_option maxRecDepth 100000 in
theorem new_loop (x0 M G x3 x4 x5 : Int) (A6 A7 A8 : Option Addr) (n6 k6 k7 n8 k8 : Nat) (l : List S45) (w : World) (hr : Aside0 (Kd.C k45 w A7 l.length l)) (M0 : 1 ≤ M) (M1 : M ≤ 16777216) (G0 : 0 ≤ G) (G1 : G ≤ 16777216) (hl : l.length ≤ 32)
    (hw : Aside0 (∀ x ∈ l, (-9223372036854775808 ≤ x.f1 ∧ x.f1 < 9223372036854775808) ∧ (-9223372036854775808 ≤ x.f2 ∧ x.f2 < 9223372036854775808))) :
    Calls Try.prog 23 #[.agg #[.int .i64 x0, .int .i64 M, .int .i64 G, .int .i64 x3, .int .i64 x4, .int .i64 x5, .slice A6 n6 k6, .slice A7 l.length k7, .slice A8 n8 k8]] w (NewPostF 90 w M G l (chk M 0 l)) := by
  go_enter Try.func23, Try.ntmps23
  go_wp2_with fail
  have b1 : Aside0 ((w.alloc (Obj.cells #[Value.int IntKind.i64 x0, Value.int IntKind.i64 M, Value.int IntKind.i64 G, Value.int IntKind.i64 x3, Value.int IntKind.i64 x4, Value.int IntKind.i64 x5, Value.slice A6 n6 k6, Value.slice A7 l.length k7, Value.slice A8 n8 k8] 26)).heap[w.heap.size]? = some (.cells #[Value.int IntKind.i64 x0, Value.int IntKind.i64 M, Value.int IntKind.i64 G, Value.int IntKind.i64 x3, Value.int IntKind.i64 x4, Value.int IntKind.i64 x5, Value.slice A6 n6 k6, Value.slice A7 l.length k7, Value.slice A8 n8 k8] 26 (0, 0))) := ⟨heap_alloc_new w _⟩
  have b2 : Aside0 (Below w.heap.size w (w.alloc (Obj.cells #[Value.int IntKind.i64 x0, Value.int IntKind.i64 M, Value.int IntKind.i64 G, Value.int IntKind.i64 x3, Value.int IntKind.i64 x4, Value.int IntKind.i64 x5, Value.slice A6 n6 k6, Value.slice A7 l.length k7, Value.slice A8 n8 k8] 26))) := ⟨below_alloc (Below.refl _ _) _⟩
  generalize w.alloc (Obj.cells #[Value.int IntKind.i64 x0, Value.int IntKind.i64 M, Value.int IntKind.i64 G, Value.int IntKind.i64 x3, Value.int IntKind.i64 x4, Value.int IntKind.i64 x5, Value.slice A6 n6 k6, Value.slice A7 l.length k7, Value.slice A8 n8 k8] 26) = w1 at *
  go_loopw [4, 34] (fun v u wr => ∃ (i : Nat) (e : Int), v = .int .i64 e ∧ u = .int .i64 i ∧ i ≤ l.length ∧ 0 ≤ e ∧ e ≤ 16777216 ∧ Aside0 (chk M e (l.drop i) = chk M 0 l) ∧ Aside0 (Below w1.heap.size w1 wr)) (fun _ u _ => l.length - (intOf u).toNat)
  case atStart => exact ⟨0, 0, rfl, rfl, by omega, by omega, by omega, ⟨by rw [List.drop_zero]⟩, ⟨Below.refl _ _⟩⟩
  case round =>
    obtain ⟨i, e, rfl, rfl, hi, e0, e1, HC, HB⟩ := hrel
    have hb1 := HB.out.block w.heap.size (blk_lt b1.out)
    have hbr : wr.heap[w.heap.size]? = _ := hb1.trans b1.out
    have HBW := Aside0.mk (below_step b2.out HB.out)
    have cM : wr.cell? ⟨w.heap.size, 1, none⟩ = some (.int .i64 M) := (blk_cell hbr 1).trans rfl
    have cG : wr.cell? ⟨w.heap.size, 2, none⟩ = some (.int .i64 G) := (blk_cell hbr 2).trans rfl
    have cW : wr.cell? ⟨w.heap.size, 7, none⟩ = some (.slice A7 l.length k7) := (blk_cell hbr 7).trans rfl
    have hlt1 := blk_lt hbr
    have HBR := Aside0.mk hbr
    clear hb1 hbr
    by_cases hlt : i < l.length
    · obtain ⟨ad, hA, hx0, hx1, hx2⟩ := at_T45 (Kd.C_below hr.out HBW.out) (i : Int) (by omega) (by omega)
      rw [Int.toNat_natCast] at hx0 hx1 hx2
      obtain ⟨⟨u0, u1⟩, v0, v1⟩ := hw.out _ (rd_mem l i hlt)
      have HC2 : Aside0 ((if (rd_T45 l (i : Int)).f1 < 0 ∨ (rd_T45 l (i : Int)).f2 < 1 ∨ (rd_T45 l (i : Int)).f1 > M ∨ (rd_T45 l (i : Int)).f2 > M - (rd_T45 l (i : Int)).f1 then 2 else if (rd_T45 l (i : Int)).f1 < e then 140 else chk M ((rd_T45 l (i : Int)).f1 + (rd_T45 l (i : Int)).f2) (l.drop (i + 1))) = chk M 0 l) := ⟨by
        rw [← HC.out, drop_rd l i hlt]
        rfl⟩
      clear HC
      subst hA
      obtain ⟨y0, hy0⟩ : ∃ y, (rd_T45 l (i : Int)).f0 = y := ⟨_, rfl⟩
      obtain ⟨y1, hy1⟩ : ∃ y, (rd_T45 l (i : Int)).f1 = y := ⟨_, rfl⟩
      obtain ⟨y2, hy2⟩ : ∃ y, (rd_T45 l (i : Int)).f2 = y := ⟨_, rfl⟩
      rw [hy0] at hx0
      rw [hy1] at hx1 u0 u1
      rw [hy2] at hx2 v0 v1
      have HC3 : Aside0 ((if y1 < 0 ∨ y2 < 1 ∨ y1 > M ∨ y2 > M - y1 then 2 else if y1 < e then 140 else chk M (y1 + y2) (l.drop (i + 1))) = chk M 0 l) := ⟨by
        have h := HC2.out
        rw [hy1, hy2] at h
        exact h⟩
      clear hy0 hy1 hy2 HC2
      go_wp2_with fail
      case roundEnd =>
        rename_i hle
        go_roundw
        case rel => exact ⟨i + 1, _, rfl, by go_num, by omega, by omega, by omega, ⟨by rw [← HC3.out, if_neg (by omega), if_neg (by omega)]⟩, ⟨below_alloc HB.out _⟩⟩
        case measure =>
          simp [intOf]
          omega
      all_goals
        first
          | (have hE : chk M 0 l = 2 := by rw [← HC3.out, if_pos (by omega)]
             go_ret2
             exact ⟨by repeat (first | exact HBW.out | apply below_alloc), .inl ⟨by rw [hE]; decide, by rw [hE]; rfl⟩⟩)
          | (have hE : chk M 0 l = 140 := by rw [← HC3.out, if_neg (by omega), if_pos (by omega)]
             go_ret2
             exact ⟨by repeat (first | exact HBW.out | apply below_alloc), .inl ⟨by rw [hE]; decide, by rw [hE]; rfl⟩⟩)
    · have HE : Aside0 (chk M 0 l = 0) := ⟨by
        rw [← HC.out, List.drop_of_length_le (by omega)]
        rfl⟩
      clear HC
      go_wp2_with fail
      have Hs0 := Aside0.mk (below_drew1 (Below.refl wr.heap.size wr))
      refine start_ (n := 12) (S := fun w' => Below wr.heap.size wr w') (ds := []) #[false, false, false, false, false, false, false, false, false, false, false, false] (by kernel_rfl) rfl rfl Hs0.out (fun hs => ?_)
      have Hs := Aside0.mk hs
      clear hs Hs0
      refine pure_ (i := 0) (N := some 75) (v := ?_) (a' := ?_) #[true, false, false, false, false, false, false, false, false, false, false, false] rfl rfl (by kernel_rfl) (fun _ _ _ h => h) (Or.inl ⟨by rfl, ?_⟩) ?_ ?_
      rotate_left
      · intro w'
        go_simp
        with_reducible rfl
      rotate_left
      · simp only [Act.put, List.setIfInBounds_toArray, List.set_cons_zero, List.set_cons_succ]
        rfl
      refine take_ (i := 1) (N := some 76) (v := ?_) #[true, true, false, false, false, false, false, false, false, false, false, false] rfl rfl (by kernel_rfl) (fun _ _ _ h => h) (Or.inl ⟨by rfl, ?_⟩) ?_ (a' := ?_) ?_ ?_
      rotate_left
      · intro w' hS
        have c := (hS.cell (p := ⟨w.heap.size, 1, none⟩) hlt1).trans cM
        go_simp
        with_reducible rfl
      · exact Hs.out
      rotate_left
      · simp only [Act.put, List.setIfInBounds_toArray, List.set_cons_zero, List.set_cons_succ]
        rfl
      refine pure_ (i := 2) (N := some 77) (v := ?_) (a' := ?_) #[true, true, true, false, false, false, false, false, false, false, false, false] rfl rfl (by kernel_rfl) (fun _ _ _ h => h) (Or.inl ⟨by rfl, ?_⟩) ?_ ?_
      rotate_left
      · intro w'
        go_simp
        with_reducible rfl
      rotate_left
      · simp only [Act.put, List.setIfInBounds_toArray, List.set_cons_zero, List.set_cons_succ]
        rfl
      refine take_ (i := 3) (N := some 78) (v := ?_) #[true, true, true, true, false, false, false, false, false, false, false, false] rfl rfl (by kernel_rfl) (fun _ _ _ h => h) (Or.inl ⟨by rfl, ?_⟩) ?_ (a' := ?_) ?_ ?_
      rotate_left
      · intro w' hS
        have c := (hS.cell (p := ⟨w.heap.size, 2, none⟩) hlt1).trans cG
        go_simp
        with_reducible rfl
      · exact Hs.out
      rotate_left
      · simp only [Act.put, List.setIfInBounds_toArray, List.set_cons_zero, List.set_cons_succ]
        rfl
      refine pure_ (i := 5) (N := some 80) (v := ?_) (a' := ?_) #[true, true, true, true, false, true, false, false, false, false, false, false] rfl rfl (by kernel_rfl) (fun _ _ _ h => h) (Or.inl ⟨by rfl, ?_⟩) ?_ ?_
      rotate_left
      · intro w'
        go_simp
        with_reducible rfl
      rotate_left
      · simp only [Act.put, List.setIfInBounds_toArray, List.set_cons_zero, List.set_cons_succ]
        rfl
      refine take_ (i := 6) (N := some 81) (v := ?_) #[true, true, true, true, false, true, true, false, false, false, false, false] rfl rfl (by kernel_rfl) (fun _ _ _ h => h) (Or.inl ⟨by rfl, ?_⟩) ?_ (a' := ?_) ?_ ?_
      rotate_left
      · intro w' hS
        have c := (hS.cell (p := ⟨w.heap.size, 7, none⟩) hlt1).trans cW
        go_simp
        with_reducible rfl
      · exact Hs.out
      rotate_left
      · simp only [Act.put, List.setIfInBounds_toArray, List.set_cons_zero, List.set_cons_succ]
        rfl
      refine one_ (i := 4) (N := some 79) #[true, true, true, true, true, true, true, false, false, false, false, false] rfl rfl (by kernel_rfl) (by decide) (fun K hK => ?_)
      refine Kd.R_lit_step k45 (w0 := wr) wr.heap.size 45 (by rfl) (N := 79) rfl (xs := ([] : List S45)) (inner := []) (ok := fun _ => True) (okp := fun _ => True) ?hr (Reps.none _ _) (fun _ hk => hk) trivial Hs.out Hs.out.size (by simp) ?_
      case hr => first | (go_simp; done) | (go_simp; rfl)
      intro v1 w2 ho hb _ _
      have HO := Aside0.mk ho
      have HB2 := Aside0.mk hb
      refine hK.out _ _ hb (fun _ => ?_)
      clear hK K ho hb
      refine norm_ (a' := ?_) ?_ ?_
      rotate_left
      · show Act.put _ (some 79) _ = _
        simp only [Act.put, List.setIfInBounds_toArray, List.set_cons_zero, List.set_cons_succ]
        rfl
      refine one_ (i := 7) (N := some 82) #[true, true, true, true, true, true, true, true, false, false, false, false] rfl rfl (by kernel_rfl) (by decide) (fun K hK => ?_)
      refine Kd.R_append_rows_step k45 (w0 := wr) wr.heap.size (by rfl) (.tmp 79) (.tmp 81) 23 45 (.agg #[.int .i64 0, .int .i64 0, .int .i64 0]) 24 rfl Try.underlying23 info45s rfl (by decide) (by omega) v1 [] l A7 l.length k7 (fun _ => True) (fun _ => False) rfl rfl HO.out (Kd.C_below hr.out (below_step HBW.out HB2.out)) (fun _ _ h => h) (fun _ h => h.elim) (fun _ _ => trivial) HB2.out HB2.out.size (by simp; omega) ?_
      intro v2 w3 ho hb _ _
      simp only [List.nil_append] at ho
      obtain ⟨A2, c2, rfl, hcap, _⟩ := Kd.R_reads ho
      have HO2 := Aside0.mk (Kd.R_bound ho)
      have HO3 := Aside0.mk hcap
      have HB3 := Aside0.mk hb
      clear hcap
      refine hK.out _ _ hb (fun _ => ?_)
      clear hK K ho hb
      refine norm_ (a' := ?_) ?_ ?_
      rotate_left
      · show Act.put _ (some 82) _ = _
        simp only [Act.put, List.setIfInBounds_toArray, List.set_cons_zero, List.set_cons_succ]
        rfl
      refine pure_ (i := 8) (N := some 83) (v := ?_) (a' := ?_) #[true, true, true, true, true, true, true, true, true, false, false, false] rfl rfl (by kernel_rfl) (fun _ _ _ h => h) (Or.inl ⟨by rfl, ?_⟩) ?_ ?_
      rotate_left
      · intro w'
        go_simp
        with_reducible rfl
      rotate_left
      · simp only [Act.put, List.setIfInBounds_toArray, List.set_cons_zero, List.set_cons_succ]
        rfl
      refine one_ (i := 9) (N := some 84) #[true, true, true, true, true, true, true, true, true, true, false, false] rfl rfl (by kernel_rfl) (by decide) (fun K hK => ?_)
      refine value_ (w1 := ?_) (v := ?_) (by rfl) rfl ?_ ?_
      rotate_left 2
      · go_simp
        constructor
        · rfl
        · rfl
      refine hK.out _ _ (below_alloc HB3.out _) (fun _ => ?_)
      clear hK K
      refine norm_ (a' := ?_) ?_ ?_
      rotate_left
      · show Act.put _ (some 84) _ = _
        simp only [Act.put, List.setIfInBounds_toArray, List.set_cons_zero, List.set_cons_succ]
        rfl
      refine pure_ (i := 10) (N := some 2) (v := ?_) (a' := ?_) #[true, true, true, true, true, true, true, true, true, true, true, false] rfl rfl (by kernel_rfl) (fun _ _ _ h => h) (Or.inl ⟨by rfl, ?_⟩) ?_ ?_
      rotate_left
      · intro w'
        go_simp
        with_reducible rfl
      rotate_left
      · simp only [Act.put, List.setIfInBounds_toArray, List.set_cons_zero, List.set_cons_succ]
        rfl
      refine pure_ (i := 11) (N := some 3) (v := ?_) (a' := ?_) #[true, true, true, true, true, true, true, true, true, true, true, true] rfl rfl (by kernel_rfl) (fun _ _ _ h => h) (Or.inl ⟨by rfl, ?_⟩) ?_ ?_
      rotate_left
      · intro w'
        go_simp
        with_reducible rfl
      rotate_left
      · simp only [Act.put, List.setIfInBounds_toArray, List.set_cons_zero, List.set_cons_succ]
        rfl
      refine done_ (by kernel_rfl) ?_
      go_wp2
      go_ret2
      exact ⟨below_alloc (below_step HBW.out HB3.out) _, .inr ⟨HE.out, w3.heap.size, rfl, Nat.le_trans HBW.out.size HB3.out.size, blk_lt (heap_alloc_new w3 _), fun w2 hk => ⟨A2, c2, (hk _ (Nat.le_trans HBW.out.size HB3.out.size) (blk_lt (heap_alloc_new w3 _))).trans (heap_alloc_new w3 _), (Kd.R_reads' (Kd.R_move HO2.out (fun k hk2 => (hk k (Nat.le_trans HBW.out.size hk2.2.1) (Nat.lt_trans hk2.2.2.1 (blk_lt (heap_alloc_new w3 _)))).trans ((below_alloc (Below.refl w3.heap.size w3) _).block k hk2.2.2.1)))).2.2, HO3.out⟩⟩⟩
set_option maxHeartbeats 1600000 in
set_option maxRecDepth 100000 in
theorem new_early (x0 M G x3 x4 x5 : Int) (A6 A7 A8 : Option Addr) (n6 k6 k7 n8 k8 n7 : Nat) (w : World) (E : Int) (hE : Aside0 ((E = 2 ∧ (M < 1 ∨ M > 16777216 ∨ G < 0 ∨ G > 16777216)) ∨ (E = 9 ∧ 1 ≤ M ∧ M ≤ 16777216 ∧ 0 ≤ G ∧ G ≤ 16777216 ∧ 32 < n7))) :
    Calls Try.prog 23 #[.agg #[.int .i64 x0, .int .i64 M, .int .i64 G, .int .i64 x3, .int .i64 x4, .int .i64 x5, .slice A6 n6 k6, .slice A7 n7 k7, .slice A8 n8 k8]] w fun e w' => e = .returned (.tuple #[.pointer none, .int .i64 E]) ∧ Below w.heap.size w w' := by
  go_enter Try.func23, Try.ntmps23
  go_wp2_with fail
  all_goals
    have h := hE.out
    first
      | (have h2 : E = 2 := by omega
         go_ret2
         exact ⟨by rw [h2]; rfl, below_alloc (Below.refl _ _) _⟩)
      | (have h2 : E = 9 := by omega
         go_ret2
         exact ⟨by rw [h2]; rfl, below_alloc (Below.refl _ _) _⟩)
      | (exfalso; omega)
/-- What plan.New comes to. -/
theorem new_calls (x0 M G x3 x4 x5 : Int) (A6 A7 A8 : Option Addr) (n6 k6 k7 n8 k8 : Nat) (l : List S45) (w : World) (hr : Kd.C k45 w A7 l.length l)
    (hw : ∀ x ∈ l, (-9223372036854775808 ≤ x.f1 ∧ x.f1 < 9223372036854775808) ∧ (-9223372036854775808 ≤ x.f2 ∧ x.f2 < 9223372036854775808)) :
    Calls Try.prog 23 #[.agg #[.int .i64 x0, .int .i64 M, .int .i64 G, .int .i64 x3, .int .i64 x4, .int .i64 x5, .slice A6 n6 k6, .slice A7 l.length k7, .slice A8 n8 k8]] w (NewPostF 90 w M G l (newE M G l)) := by
  unfold newE
  by_cases h1 : M < 1 ∨ M > 16777216 ∨ G < 0 ∨ G > 16777216
  · rw [if_pos h1]
    refine (new_early x0 M G x3 x4 x5 A6 A7 A8 n6 k6 k7 n8 k8 l.length w 2 ⟨.inl ⟨rfl, h1⟩⟩).mono fun e w' h => ⟨h.2, .inl ⟨by decide, h.1⟩⟩
  · rw [if_neg h1]
    by_cases h2 : l.length > 32
    · rw [if_pos h2]
      refine (new_early x0 M G x3 x4 x5 A6 A7 A8 n6 k6 k7 n8 k8 l.length w 9 ⟨.inr ⟨rfl, by omega, by omega, by omega, by omega, h2⟩⟩).mono fun e w' h => ⟨h.2, .inl ⟨by decide, h.1⟩⟩
    · rw [if_neg h2]
      exact new_loop x0 M G x3 x4 x5 A6 A7 A8 n6 k6 k7 n8 k8 l w ⟨hr⟩ (by omega) (by omega) (by omega) (by omega) (by omega) ⟨hw⟩
end Go.Proofs.Ytagnlbpndldfeaa.SPlanNewF
