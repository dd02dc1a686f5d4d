/- The law PlanOne: the walk. -/
import Derived.Test.YtigifaccmcggdaaPlanWorks
import Derived.Test.YtigifaccmcggdaaPlanOnePure
import Derived.Test.YtigifaccmcggdaaPlanRec
namespace Go.Proofs.Ytigifaccmcggdaa.PlanLawOne
open Go.RowKit Go.Proofs.Ytigifaccmcggdaa.PPlanCycles Go.Proofs.YtigifaccmcggdaaW.PrintWords Go.Proofs.YtigifaccmcggdaaW.PrintLast Go.Proofs.YtigifaccmcggdaaW.PrintMore Go.Proofs.Ytigifaccmcggdaa.Aid Go.Proofs.Ytigifaccmcggdaa.PlanBase Go.Proofs.Ytigifaccmcggdaa.PlanAt Go.Proofs.Ytigifaccmcggdaa.PlanStart Go.Proofs.Ytigifaccmcggdaa.PlanCalls Go.Proofs.Ytigifaccmcggdaa.PlanWorks Go.Proofs.Ytigifaccmcggdaa.PlanOnePure

theorem at_first {M x : Int} {l : List S35} (h0 : 0 ≤ x) (h1 : x < M) (hM : M ≤ 16777216) : atR M l x = (0, idxOf (atIdx x 0 l), (atIdx x 0 l).isSome) := by
  unfold atR
  rw [if_neg (by omega), Int.ediv_eq_zero_of_lt h0 h1, Int.emod_eq_of_lt h0 h1]
theorem at_major {M x j P : Int} {l : List S35} (h0 : 0 ≤ x) (h1 : x < M) (hP : j * M = P) (p0 : 0 ≤ P) (p1 : P + x ≤ 281474976710656) : atR M l (P + x) = (j, idxOf (atIdx x 0 l), (atIdx x 0 l).isSome) := by
  unfold atR
  subst hP
  rw [if_neg (by omega)]
  have e1 : (j * M + x) / M = j := by
    rw [Int.add_comm, Int.add_mul_ediv_right _ _ (by omega), Int.ediv_eq_zero_of_lt h0 h1]
    omega
  have e2 : (j * M + x) % M = x := by
    rw [Int.add_comm, Int.add_mul_emod_self_right, Int.emod_eq_of_lt h0 h1]
  rw [e1, e2]
set_option maxHeartbeats 1600000 in
set_option maxRecDepth 100000 in
theorem one (x0 M G x3 x4 x5 : Int) (A6 A7 A8 : Option Addr) (n6 k6 k7 n8 k8 : Nat) (l : List S35) (pos major : Int) (w : World) (hr : Kd.C k35 w A7 l.length l) (hw : ∀ x ∈ l, (-9223372036854775808 ≤ x.f1 ∧ x.f1 < 9223372036854775808) ∧ (-9223372036854775808 ≤ x.f2 ∧ x.f2 < 9223372036854775808)) :
    Calls Try.prog 5 #[.agg #[Value.int IntKind.i64 x0, Value.int IntKind.i64 M, Value.int IntKind.i64 G, Value.int IntKind.i64 x3, Value.int IntKind.i64 x4, Value.int IntKind.i64 x5, Value.slice A6 n6 k6, Value.slice A7 l.length k7, Value.slice A8 n8 k8], .int .i64 pos, .int .i64 major] w fun e w' => e = .returned (.bool true) ∧ Below w.heap.size w w' := by
  have HR := Aside0.mk hr
  have HW := Aside0.mk hw
  clear hr hw
  go_enter Try.func5, Try.ntmps5
  go_wp2_with fail
  have b1 : Aside0 ((w.alloc (Obj.cells #[Value.int IntKind.i64 x0, Value.int IntKind.i64 M, Value.int IntKind.i64 G, Value.int IntKind.i64 x3, Value.int IntKind.i64 x4, Value.int IntKind.i64 x5, Value.slice A6 n6 k6, Value.slice A7 l.length k7, Value.slice A8 n8 k8] 26)).heap[w.heap.size]? = some (.cells #[Value.int IntKind.i64 x0, Value.int IntKind.i64 M, Value.int IntKind.i64 G, Value.int IntKind.i64 x3, Value.int IntKind.i64 x4, Value.int IntKind.i64 x5, Value.slice A6 n6 k6, Value.slice A7 l.length k7, Value.slice A8 n8 k8] 26 (0, 0))) := ⟨heap_alloc_new w _⟩
  have b2 : Aside0 (Below w.heap.size w (w.alloc (Obj.cells #[Value.int IntKind.i64 x0, Value.int IntKind.i64 M, Value.int IntKind.i64 G, Value.int IntKind.i64 x3, Value.int IntKind.i64 x4, Value.int IntKind.i64 x5, Value.slice A6 n6 k6, Value.slice A7 l.length k7, Value.slice A8 n8 k8] 26))) := ⟨below_alloc (Below.refl _ _) _⟩
  generalize w.alloc (Obj.cells #[Value.int IntKind.i64 x0, Value.int IntKind.i64 M, Value.int IntKind.i64 G, Value.int IntKind.i64 x3, Value.int IntKind.i64 x4, Value.int IntKind.i64 x5, Value.slice A6 n6 k6, Value.slice A7 l.length k7, Value.slice A8 n8 k8] 26) = wa at *
  refine (works_calls wa).mono ?_
  rintro e w1 ⟨rfl, hB⟩
  have hbr : w1.heap[w.heap.size]? = _ := (hB.block w.heap.size (blk_lt b1.out)).trans b1.out
  have B1 := Aside0.mk hbr
  have c0 := (blk_cell hbr 0).trans (show _ = some (Value.int IntKind.i64 x0) from rfl); have c1 := (blk_cell hbr 1).trans (show _ = some (Value.int IntKind.i64 M) from rfl); have c2 := (blk_cell hbr 2).trans (show _ = some (Value.int IntKind.i64 G) from rfl); have c3 := (blk_cell hbr 3).trans (show _ = some (Value.int IntKind.i64 x3) from rfl); have c4 := (blk_cell hbr 4).trans (show _ = some (Value.int IntKind.i64 x4) from rfl); have c5 := (blk_cell hbr 5).trans (show _ = some (Value.int IntKind.i64 x5) from rfl); have c6 := (blk_cell hbr 6).trans (show _ = some (Value.slice A6 n6 k6) from rfl); have c7 := (blk_cell hbr 7).trans (show _ = some (Value.slice A7 l.length k7) from rfl); have c8 := (blk_cell hbr 8).trans (show _ = some (Value.slice A8 n8 k8) from rfl)
  have HB := Aside0.mk (below_step b2.out hB)
  have HC1 := Aside0.mk (Kd.C_below HR.out HB.out)
  clear hbr hB b1 b2
  go_wp2_with fail
  refine (PlanNew.new_calls x0 M G x3 x4 x5 A6 A7 A8 n6 k6 k7 n8 k8 l _ HC1.out HW.out).mono ?_
  generalize hE : newE M G l = E
  rintro e w2 ⟨hB, h⟩
  have HB2 := Aside0.mk (below_step HB.out hB)
  rcases h with ⟨hne, rfl⟩ | ⟨h0, g, rfl, hg, hP⟩
  · clear hB
    have h1 : (E == 0) = false := beq_eq_false_iff_ne.2 hne
    have h2 : (E != 0) = true := by simp [hne]
    clear hE
    go_wp2_with fail
    go_ret
    exact ⟨rfl, HB2.out⟩
  · subst h0
    have hbr : w2.heap[w.heap.size]? = _ := (hB.block w.heap.size (blk_lt B1.out)).trans B1.out
    clear c0 c1 c2 c3 c4 c5 c6 c7 c8
    have B2 := Aside0.mk hbr
    have c1 := (blk_cell hbr 1).trans (show _ = some (Value.int IntKind.i64 M) from rfl)
    have c7 := (blk_cell hbr 7).trans (show _ = some (Value.slice A7 l.length k7) from rfl)
    have HC2 := Aside0.mk (Kd.C_below HR.out HB2.out)
    have HP := Aside0.mk hP
    have HF := Aside0.mk (fit_of hE).1
    have HO := Aside0.mk (fit_of hE).2
    have hgl := blk_lt hbr
    clear hE hP hB hbr HB B1 HC1
    obtain ⟨M0, M1, hl, _⟩ := HF.out
    have m1 : (M == 0) = false := beq_eq_false_iff_ne.2 (by omega)
    have m2 : decide (M = 0) = false := decide_eq_false (by omega)
    go_wp2_with fail
    have hx : ∃ x, wrap64 ((IntKind.u64.wrap pos).tmod M) = x ∧ 0 ≤ x ∧ x < M := ⟨_, rfl, by
      rw [u64w, Int.tmod_eq_emod_of_nonneg (by omega)]
      have h1 := Int.emod_nonneg (pos % 18446744073709551616) (show M ≠ 0 by omega)
      have h2 := Int.emod_lt_of_pos (pos % 18446744073709551616) (show 0 < M by omega)
      rw [w64 (by omega) (by omega)]
      exact ⟨h1, h2⟩⟩
    have hj : ∃ j, wrap64 ((IntKind.u64.wrap major).tmod 100000) = j ∧ 0 ≤ j ∧ j < 100000 := ⟨_, rfl, by
      rw [u64w, Int.tmod_eq_emod_of_nonneg (by omega)]
      rw [w64 (by omega) (by omega)]
      omega⟩
    obtain ⟨x, hx, x0', x1'⟩ := hx
    obtain ⟨j, hj, j0', j1'⟩ := hj
    rw [hx, hj]
    clear hx hj
    have P0 : 0 ≤ j * M := Int.mul_nonneg j0' (by omega)
    have P1 : j * M ≤ 100000 * 16777216 := Int.mul_le_mul (by omega) M1 (by omega) (by omega)
    obtain ⟨P, hP⟩ : ∃ P, j * M = P := ⟨_, rfl⟩
    rw [hP] at P0 P1
    go_loopw [9, 10, 11] (fun n wh u wr => ∃ (i : Nat) (a b : Int), n = .int .i64 a ∧ wh = .int .i64 b ∧ u = .int .i64 i ∧ i ≤ l.length ∧ 0 ≤ a ∧ a ≤ i ∧ Aside0 (cntw x i a b (l.drop i) = cntw x 0 0 (-1) l) ∧ Aside0 (Below w2.heap.size w2 wr)) (fun _ _ u _ => l.length - (intOf u).toNat)
    case atStart => exact ⟨0, 0, -1, rfl, rfl, rfl, by omega, by omega, by omega, ⟨by rw [List.drop_zero]⟩, ⟨Below.refl _ _⟩⟩
    case round =>
      obtain ⟨i, a, b, rfl, rfl, rfl, hi, a0, a1, HC, HBr⟩ := hrel
      have e7 := (HBr.out.cell (p := ⟨w.heap.size, 7, none⟩) hgl).trans c7
      by_cases hlt : i < l.length
      · obtain ⟨ad, hA, hx0, hx1, hx2⟩ := at_T35 (Kd.C_below HC2.out HBr.out) (i : Int) (by omega) (by omega)
        rw [Int.toNat_natCast] at hx0 hx1 hx2
        obtain ⟨u0, u1, v0, v1⟩ := HF.out.2.2.2 _ (rd_mem l i hlt)
        have HK2 : Aside0 ((if (rd_T35 l (i : Int)).f1 ≤ x ∧ x < (rd_T35 l (i : Int)).f1 + (rd_T35 l (i : Int)).f2 then cntw x (i + 1) (a + 1) (i : Int) (l.drop (i + 1)) else cntw x (i + 1) a b (l.drop (i + 1))) = cntw x 0 0 (-1) l) := ⟨by
          rw [← HC.out, drop_rd l i hlt]
          rfl⟩
        clear HC
        subst hA
        obtain ⟨y0, hy0⟩ : ∃ y, (rd_T35 l (i : Int)).f0 = y := ⟨_, rfl⟩
        obtain ⟨y1, hy1⟩ : ∃ y, (rd_T35 l (i : Int)).f1 = y := ⟨_, rfl⟩
        obtain ⟨y2, hy2⟩ : ∃ y, (rd_T35 l (i : Int)).f2 = y := ⟨_, rfl⟩
        rw [hy0] at hx0
        rw [hy1] at hx1 u0 u1 v1
        rw [hy2] at hx2 v0 v1
        have HC3 : Aside0 ((if y1 ≤ x ∧ x < y1 + y2 then cntw x (i + 1) (a + 1) (i : Int) (l.drop (i + 1)) else cntw x (i + 1) a b (l.drop (i + 1))) = cntw x 0 0 (-1) l) := ⟨by
          have h := HK2.out
          rw [hy1, hy2] at h
          exact h⟩
        clear hy0 hy1 hy2 HK2 c1 c7
        go_wp2_with fail
        case roundEnd =>
          go_roundw
          case rel => first | exact ⟨i + 1, _, _, rfl, rfl, by go_num, by omega, by omega, by omega, ⟨by rw [← HC3.out, if_neg (by omega)]⟩, ⟨below_alloc HBr.out _⟩⟩ | exact ⟨i + 1, _, _, rfl, rfl, by go_num, by omega, by omega, by omega, ⟨by rw [← HC3.out, if_pos (by omega)]⟩, ⟨below_alloc HBr.out _⟩⟩
          case measure =>
            simp [intOf]
            omega
        case roundEnd =>
          go_roundw
          case rel => first | exact ⟨i + 1, _, _, rfl, rfl, by go_num, by omega, by omega, by omega, ⟨by rw [← HC3.out, if_neg (by omega)]⟩, ⟨below_alloc HBr.out _⟩⟩ | exact ⟨i + 1, _, _, rfl, rfl, by go_num, by omega, by omega, by omega, ⟨by rw [← HC3.out, if_pos (by omega)]⟩, ⟨below_alloc HBr.out _⟩⟩
          case measure =>
            simp [intOf]
            omega
        case roundEnd =>
          go_roundw
          case rel => first | exact ⟨i + 1, _, _, rfl, rfl, by go_num, by omega, by omega, by omega, ⟨by rw [← HC3.out, if_neg (by omega)]⟩, ⟨below_alloc HBr.out _⟩⟩ | exact ⟨i + 1, _, _, rfl, rfl, by go_num, by omega, by omega, by omega, ⟨by rw [← HC3.out, if_pos (by omega)]⟩, ⟨below_alloc HBr.out _⟩⟩
          case measure =>
            simp [intOf]
            omega
      · have HE : Aside0 ((a, b) = (if (atIdx x 0 l).isSome then 1 else 0, idxOf (atIdx x 0 l))) := ⟨by
          rw [← cntw_at HF.out HO.out, ← HC.out, List.drop_of_length_le (by omega)]
          rfl⟩
        have e1 := (HBr.out.cell (p := ⟨w.heap.size, 1, none⟩) hgl).trans c1
        have E1 := Aside0.mk e1
        have hglr : w.heap.size < wr.heap.size := Nat.lt_of_lt_of_le hgl HBr.out.size
        have HPr := Aside0.mk (HP.out.below HBr.out)
        have HBB := Aside0.mk (below_step HB2.out HBr.out)
        clear HC c1 c7 e1
        go_wp2_with fail
        refine (at_calls g M G l _ x HPr.out HF.out).mono ?_
        rw [at_first x0' x1' M1]
        rintro e w3 ⟨rfl, hB⟩
        have HP3 := Aside0.mk (HPr.out.below hB)
        have HB3 := Aside0.mk (below_step HBB.out hB)
        have f1 := (hB.cell (p := ⟨w.heap.size, 1, none⟩) hglr).trans E1.out
        clear hB HPr HBB E1 e7
        go_wp2_with fail
        refine (at_calls g M G l _ (P + x) HP3.out HF.out).mono ?_
        rw [at_major x0' x1' hP P0 (by omega)]
        rintro e w4 ⟨rfl, hB⟩
        have HB4 := Aside0.mk (below_step HB3.out hB)
        clear hB HP3 HB3 f1
        have HE2 := HE.out
        clear HE
        cases hat : atIdx x 0 l with
        | none =>
          rw [hat] at HE2
          obtain ⟨rfl, rfl⟩ : a = 0 ∧ b = -1 := by simpa [idxOf] using HE2
          clear HE2
          go_wp2_with fail
          go_ret
          exact ⟨rfl, HB4.out⟩
        | some k =>
          rw [hat] at HE2
          obtain ⟨rfl, rfl⟩ : a = 1 ∧ b = k := by simpa [idxOf] using HE2
          clear HE2
          go_wp2_with fail
          go_ret
          exact ⟨rfl, HB4.out⟩
theorem walk (x0 M G x3 x4 x5 : Int) (A6 : Option Addr) (n6 k6 : Nat) (A7 : Option Addr) (n7 k7 : Nat) (X : Nat → Nat → Int) (A8 : Option Addr) (n8 k8 : Nat) (pos major : Int) (w : World) (h : AidRows.Recs w A7 n7 [.i64, .i64, .i64] X) (hn : n7 * 24 ≤ 140737488351232)
    (_ : (Lit.int .i64 pos).wf = true) (_ : (Lit.int .i64 major).wf = true) :
    Calls Try.prog 5 #[.agg #[.int .i64 x0, .int .i64 M, .int .i64 G, .int .i64 x3, .int .i64 x4, .int .i64 x5, .slice A6 n6 k6, .slice A7 n7 k7, .slice A8 n8 k8], .int .i64 pos, .int .i64 major] w fun e w' => e = .returned (.bool true) ∧ Below w.heap.size w w' := by
  have := one x0 M G x3 x4 x5 A6 A7 A8 n6 k6 k7 n8 k8 (PlanRec.wins n7 X) pos major w (PlanRec.wins_row h hn) (PlanRec.wins_bound h)
  rwa [PlanRec.wins_length] at this
end Go.Proofs.Ytigifaccmcggdaa.PlanLawOne
