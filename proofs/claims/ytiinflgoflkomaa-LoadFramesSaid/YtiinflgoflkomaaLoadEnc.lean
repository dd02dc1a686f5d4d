/- load.Encode. -/
import Derived.Test.YtiinflgoflkomaaLoadEnc1
import Derived.ArgAppend
import Derived.Lib.SlBytesConst
namespace Go.Proofs.Ytiinflgoflkomaa.LoadEnc
open Go.RowKit Go.Proofs.Ytiinflgoflkomaa.PLoadChecks Go.Proofs.YtiinflgoflkomaaW.PrintWords Go.Proofs.YtiinflgoflkomaaW.PrintLast Go.Proofs.YtiinflgoflkomaaW.PrintMore Go.Proofs.Ytiinflgoflkomaa.Aid Go.Proofs.Ytiinflgoflkomaa.LoadF Go.Proofs.Ytiinflgoflkomaa.LoadPut Go.Proofs.Ytiinflgoflkomaa.LoadSame2 Go.Proofs.Ytiinflgoflkomaa.LoadEnc1 Go.Proofs.Ytiinflgoflkomaa.LoadPure
set_option linter.unusedVariables false
set_option linter.unusedSimpArgs false
theorem new_cells {w : World} {ad : Addr} (h : Kd.C (Kd.int .u8) w (some ad) 1 [1]) : ∀ j u, [Value.int .u8 1][j]? = some u → w.cell? (ad.add j) = some u := by
  intro j u hj
  obtain ⟨ad', h1, h2⟩ := h.2.2 (by decide)
  obtain rfl : ad = ad' := by simpa using h1
  obtain ⟨c, _, hK, hc⟩ := h2 0 1 rfl
  have h0 := hc j u
  rw [Nat.zero_mul, Nat.zero_add] at h0
  refine h0 ?_
  have e : c = [Value.int .u8 1] := hK
  rw [e]
  exact hj
theorem row_of {W w : World} {v : Value} (h : w.ownsRow W.heap.size 5 1 v 5 ([.int .u8 86, .int .u8 82, .int .u8 73, .int .u8 77] ++ [.int .u8 1])) : Kd.R (Kd.int .u8) 5 w W.heap.size (fun _ => True) v [86, 82, 73, 77, 1] := Kd.R_of_own h (fun _ _ => trivial)
theorem below_grown {w w' : World} {B : Nat} (h : w.grownBy w' none) (hB : B ≤ w.heap.size) : Below B w w' := (Below.refl B w).grown h hB (fun _ h => by cases h)
theorem chkL_all : ∀ (l : List S45) (T L : Int), 0 ≤ T → chkL T L l = 0 → ∀ s ∈ l, 0 ≤ s.f0 ∧ s.f0 < 4096 ∧ 1 ≤ s.f1 ∧ s.f1 ≤ 7 ∧ 1 ≤ s.f2.length ∧ s.f2.length ≤ 16384
  | [], _, _, _, _, s, hs => absurd hs (by simp)
  | x :: r, T, L, hT, h, s, hs => by
    have h' : (if rowE x T L ≠ 0 then rowE x T L else chkL (T + x.f2.length) (endP x.f0 x.f2.length) r) = 0 := h
    by_cases h0 : rowE x T L = 0
    · rw [if_neg (fun h => h h0)] at h'
      have ok := secE_ok h0
      rcases List.mem_cons.1 hs with rfl | hs
      · omega
      · exact chkL_all r _ _ (by omega) h' s hs
    · rw [if_pos h0] at h'
      exact absurd h' h0
theorem row_far {w0 w : World} {g t j : Nat} {cs : Array Value} {v u : Value} {xs : List Int} (hb : w.heap[g]? = some (.cells cs t (0, 0))) (ht : t ≠ 5) (h : Row w0 w v xs) : Row w0 (w.setCell ⟨g, j, none⟩ u) v xs := by
  refine Kd.R_mono (Kd.R_far (ok := fun k => k ≠ g) (Kd.R_mono (Kd.R_bound h) (fun k hk e => ?_)) (fun k hk => hk) _) (fun _ _ => trivial)
  subst e
  obtain ⟨_, _, _, q, hq, cells, hc⟩ := hk
  rw [hb] at hc
  have hE : (Kd.int IntKind.u8).E = [] := rfl
  rw [hE] at hq
  have h5 : q = 5 := by simpa using hq
  subst h5
  exact ht (by simpa using (congrArg (fun o : Option Obj => match o with | some (.cells _ q _) => q | _ => 0) hc))
theorem encS_len (s : S45) : (encS s).length = 5 + s.f2.length := by
  simp [encS, le_length]
  omega
theorem encS_is {pg pm : Int} {b : List Int} (h : 0 ≤ pg ∧ pg < 4096) (hb : b.length ≤ 16384) : encS ⟨pg, pm, b⟩ = le pg 2 ++ le pm 1 ++ le (b.length : Int) 2 ++ b := by
  unfold encS
  have e1 : pg % 18446744073709551616 = pg := by omega
  have e2 : (b.length : Int) % 18446744073709551616 = (b.length : Int) := by omega
  simp only [e1, e2]
  rfl
theorem encL_start {a : Int} {l : List S45} (ha : 0 ≤ a ∧ a < 4294967296) (hl : l.length ≤ 16) : ([86, 82, 73, 77, 1] ++ le a 4 ++ le (l.length : Int) 1) ++ (l.drop 0).flatMap encS = encL a l := by
  unfold encL
  have e1 : a % 18446744073709551616 = a := by omega
  rw [e1, List.drop_zero]
  rfl
theorem row_set {w0 w : World} {g : Nat} {u v : Value} {xs : List Int} (hb : w.heap[g]? = some (.cells #[u] 27 (0, 0))) (h : Row w0 w v xs) : Row w0 (w.setCell ⟨g, 0, none⟩ v) v xs := by
  refine Kd.R_mono (Kd.R_far (ok := fun k => k ≠ g) (Kd.R_mono (Kd.R_bound h) (fun k hk e => ?_)) (fun k hk => hk) _) (fun _ _ => trivial)
  subst e
  obtain ⟨_, _, _, q, hq, cells, hc⟩ := hk
  rw [hb] at hc
  have h27 : q = 27 := by simpa using (congrArg (fun o : Option Obj => match o with | some (.cells _ q _) => q | _ => 0) hc).symm
  subst h27
  have hE : (Kd.int IntKind.u8).E = [] := rfl
  rw [hE] at hq
  revert hq
  decide
set_option maxHeartbeats 1600000 in
set_option maxRecDepth 100000 in
theorem enc_calls (A : Option Addr) (c : Nat) (a : Int) (l : List S45) (w : World) (hr : Kd.C k45 w A l.length l) (hc : l.length ≤ c) (hl : Sz l) (ha : 0 ≤ a ∧ a < 4294967296) :
    Calls Try.prog 7 #[.agg #[.int .u32 a, .slice A l.length c]] w fun e w' => ∃ v, e = .returned (.tuple #[v, .int .i64 (imgL a l)]) ∧ Kd.R (Kd.int .u8) 5 w' w.heap.size (fun _ => True) v (encA a l) ∧ Below w.heap.size w w' := by
  have hmf : ∀ (fn : Fn) (first cap : Array Value) (w : World), (Instr.makeFunc fn first cap).run Try.prog w = .ok (.func fn first cap) w := fun _ _ _ _ => rfl
  have HR := Aside0.mk hr
  have HC := Aside0.mk hc
  have HL := Aside0.mk hl
  have HA := Aside0.mk ha
  have HB := Aside0.mk (Below.refl w.heap.size w)
  have HF := Aside0.mk (Check_f (k := 20) ha.1 hl (Nat.le_refl _))
  obtain ⟨r, hr0⟩ : ∃ r, r = imgL a l := ⟨_, rfl⟩
  have HF := Aside0.mk (HF.out.trans (congrArg some hr0.symm))
  have HE : Aside0 (encA a l = if r = 0 then encL a l else []) := ⟨by rw [hr0]; rfl⟩
  have HR0 := Aside0.mk hr0
  rw [← hr0]
  clear hr hc hl ha hr0
  obtain ⟨y, hy⟩ : ∃ y, y = encA a l := ⟨_, rfl⟩
  rw [← hy]
  have HY := Aside0.mk (hy.trans HE.out)
  clear hy HE
  go_enter Try.func7, Try.ntmps7
  go_wp2_with (first | ((with_reducible refine gate_dst (N := 1) rfl ?_); refine box_event ?hg (N := 1) ?hd (cs := #[.int .u32 a, .slice A l.length c]) (t := 25) ?hr ?_; (case hd => rfl); (case hg => rfl); (case hr => first | (go_simp; done) | (go_simp; rfl)); intro g1 hg w1 hbox hb; have GE1 := Aside0.mk (show w.heap.size ≤ g1 by rw [hg]; exact Nat.le_refl _); have BK1 := Aside0.mk hbox; have HB := Aside0.mk (below_step HB.out hb); clear hg hbox hb; have c10 : w1.cell? ⟨g1, 0, none⟩ = some (.int .u32 a) := (blk_cell BK1.out 0).trans rfl; have c11 : w1.cell? ⟨g1, 1, none⟩ = some (.slice A l.length c) := (blk_cell BK1.out 1).trans rfl))
  refine (load_Check.calls 20 a A c l r _ (Kd.C_below HR.out HB.out) HC.out HF.out).mono ?_
  rintro e w2 ⟨rfl, hb⟩
  have BK1 := Aside0.mk (blk_below BK1.out hb)
  have HB := Aside0.mk (below_step HB.out hb)
  clear hb c10 c11
  by_cases h0 : r = 0
  · have e0 : (r != 0) = false := by simp [h0]
    have HE := Aside0.mk (HY.out.trans (if_pos h0))
    clear HY
    have HO : Aside0 (a % 4 = 0 ∧ l.length ≤ 16 ∧ ∀ s ∈ l, 0 ≤ s.f0 ∧ s.f0 < 4096 ∧ 1 ≤ s.f1 ∧ s.f1 ≤ 7 ∧ 1 ≤ s.f2.length ∧ s.f2.length ≤ 16384) := ⟨by obtain ⟨h1, _, h3, h4⟩ := imgL_ok (HR0.out.symm.trans h0); exact ⟨h1, h3, chkL_all l 0 (-1) (by omega) h4⟩⟩
    have HZ := Aside0.mk h0
    have ea : IntKind.i64.wrap a = a := by have := HA.out; rw [i64_w, w64 (by omega) (by omega)]
    clear h0
    go_wp2_with (first | ((with_reducible refine gate_dst (N := 15) rfl ?_); refine Kd.event_run (v := .slice (some ⟨w2.heap.size, 0, none⟩) 4 4) (w1 := w2.alloc (.cells #[.int .u8 86, .int .u8 82, .int .u8 73, .int .u8 77] 5 (4, 5))) rfl ?hr ?_; (case hr => have kc : (convert 27 27 (.slice (some ⟨w2.heap.size, 0, none⟩) 4 4)).run Try.prog (w2.alloc (.cells #[.int .u8 86, .int .u8 82, .int .u8 73, .int .u8 77] 5)) = .ok (.slice (some ⟨w2.heap.size, 0, none⟩) 4 4) (w2.alloc (.cells #[.int .u8 86, .int .u8 82, .int .u8 73, .int .u8 77] 5 (4, 5))) := Lib.run_convert_bytes_const w2 27 5 #[.int .u8 86, .int .u8 82, .int .u8 73, .int .u8 77] 4 4 Try.underlying27 Try.underlying5; first | (go_simp; done) | (go_simp; rfl)); generalize hw3 : w2.alloc (.cells #[.int .u8 86, .int .u8 82, .int .u8 73, .int .u8 77] 5 (4, 5)) = w3; have M3 : Aside0 (w3.heap[w2.heap.size]? = some (.cells #[.int .u8 86, .int .u8 82, .int .u8 73, .int .u8 77] 5 (4, 5))) := ⟨by rw [← hw3]; exact heap_alloc_new _ _⟩; have hb : Below w2.heap.size w2 w3 := (by rw [← hw3]; exact below_alloc (Below.refl _ _) _); have BK1 := Aside0.mk (blk_below BK1.out hb); have HB := Aside0.mk (below_step HB.out hb); clear hb hw3) | ((with_reducible refine gate_dst (N := 16) rfl ?_); refine Kd.R_lit (Kd.int .u8) _ 5 rfl (N := 16) rfl (xs := ([1] : List Int)) (inner := [.int .u8 1]) (ok := fun _ => True) (okp := fun _ => True) ?hr ?hp (fun _ hk => hk) trivial (Below.refl _ _) (Nat.le_refl _) (by simp) ?_; (case hr => first | (go_simp; done) | (go_simp; rfl)); (case hp => exact (Reps.one (show Kd.M (Kd.int .u8) _ _ _ 1 [.int .u8 1] from rfl) (Reps.none _ _))); intro v9 w4 ho9 hb _ _; obtain ⟨A5, c5, rfl, _, hr9⟩ := Kd.R_reads ho9; obtain ⟨ad5, hA5⟩ : ∃ ad5, A5 = some ad5 := (by obtain ⟨ad, _, h, _⟩ := Kd.C_get hr9 (0 : Int) 0 (by decide) (by decide); exact ⟨ad, h⟩); subst hA5; have R5 := Aside0.mk hr9; have M3 := Aside0.mk (blk_below M3.out hb); have BK1 := Aside0.mk (blk_below BK1.out hb); have HB := Aside0.mk (below_step HB.out hb); clear ho9 hb hr9) | ((with_reducible refine gate_builtin (b := .append) (xs := #[.tmp 15, .tmp 16]) rfl ?_); at_builtin; obtain ⟨i0, hi, hzz⟩ := Option.map_eq_some_iff.1 info5; simp only [Prod.mk.injEq] at hzz; refine wpList_append_arg w4 rfl (.tmp 15) (.tmp 16) 27 rfl 5 i0 (.int .u8 0) 1 1 Try.underlying27 hi hzz.1 hzz.2.1 hzz.2.2 rfl (by decide) w2.heap.size 0 4 4 [.int .u8 86, .int .u8 82, .int .u8 73, .int .u8 77] rfl rfl ?lo ad5 1 c5 [.int .u8 1] rfl rfl ?nw (by simp [Value.oneCell']) (fun h => absurd h (by decide)) (by decide) (by decide) (fun h => absurd h (by decide)) ?_; (case lo => intro j u hj; rw [Nat.zero_add, cell_of_row _ _ _ _ _ _ M3.out]; simpa using hj); (case nw => exact new_cells R5.out); intro _ v9 w5 hown hgr; have R6 := Aside0.mk (Kd.R_lower (row_of hown) HB.out.size); have BK1 := Aside0.mk (blk_grown BK1.out hgr (by simp)); have HB := Aside0.mk (HB.out.trans (below_grown hgr HB.out.size)); obtain ⟨A6, c6, rfl, _, _⟩ := Kd.R_reads R6.out; clear hown hgr R5 M3 hi hzz) | ((with_reducible refine gate_dst (N := 5) rfl ?_); refine box_event ?hg (N := 5) ?hd (cs := #[.slice none 0 0]) (t := 27) ?hr ?_; (case hd => rfl); (case hg => rfl); (case hr => first | (go_simp; done) | (go_simp; rfl)); intro g5 hg w6 hbox hb; have GE5 := Aside0.mk (show w.heap.size ≤ g5 by rw [hg]; exact HB.out.size); have BK5 := Aside0.mk hbox; have BK1 := Aside0.mk (blk_below BK1.out hb); have R6 := Aside0.mk (Kd.R_below R6.out hb); have HB := Aside0.mk (below_step HB.out hb); clear hg hbox hb; have c50 : w6.cell? ⟨g5, 0, none⟩ = some (.slice none 0 0) := (blk_cell BK5.out 0).trans rfl; have f50 := blk_frozen BK5.out 0) | ((with_reducible refine gate_store (t := 27) (p := 5) (v := .tmp 17) rfl ?_); refine store_event (t := 27) (p := 5) (v := .tmp 17) (w1 := w6.setCell ⟨g5, 0, none⟩ (.slice A6 5 c6)) rfl rfl rfl ?hr ?_; (case hr => first | (go_simp; done) | (go_simp; rfl)); intro w7 hw; have BK1 : Aside0 (w7.heap[g1]? = some (.cells #[.int .u32 a, .slice A l.length c] 25 (0, 0))) := ⟨(by rw [hw]; exact blk_far BK1.out (fun e => blk_ne BK1.out BK5.out (by decide) e) _)⟩; have RW : Aside0 (Row w w7 (.slice A6 5 c6) [86, 82, 73, 77, 1]) := ⟨(by rw [hw]; exact row_set BK5.out R6.out)⟩; have BK5 : Aside0 (w7.heap[g5]? = some (.cells #[.slice A6 5 c6] 27 (0, 0))) := ⟨(by rw [hw]; exact blk_put BK5.out 0 _ rfl)⟩; have HB : Aside0 (Below w.heap.size w w7) := ⟨(by rw [hw]; exact below_set HB.out GE5.out)⟩; clear hw R6 c50 f50; have c10 : w7.cell? ⟨g1, 0, none⟩ = some (.int .u32 a) := (blk_cell BK1.out 0).trans rfl; have c11 : w7.cell? ⟨g1, 1, none⟩ = some (.slice A l.length c) := (blk_cell BK1.out 1).trans rfl))
    refine (enc1_calls a 4 _ g5 _ w _ ⟨HA.out.1⟩ ⟨by have := HA.out; omega⟩ ⟨by decide⟩ ⟨by simp⟩ GE5 BK5 RW HB).mono ?_
    rintro e w8 ⟨rfl, v8, hb8, hr8, hB8, hrest8⟩
    have BK1 := Aside0.mk (hrest8 g1 _ _ BK1.out (by decide) (fun e => blk_ne BK1.out BK5.out (by decide) e))
    have BK5 := Aside0.mk hb8
    have RW := Aside0.mk hr8
    have HB := Aside0.mk hB8
    clear hb8 hr8 hB8 hrest8 c10 c11
    have c11 : w8.cell? ⟨g1, 1, none⟩ = some (.slice A l.length c) := (blk_cell BK1.out 1).trans rfl
    go_wp2_with fail
    refine (enc1_calls (l.length : Int) 1 _ g5 _ w _ ⟨by omega⟩ ⟨by have := HO.out.2.1; omega⟩ ⟨by decide⟩ ⟨by rw [List.length_append, le_length]; simp⟩ GE5 BK5 RW HB).mono ?_
    rintro e w9 ⟨rfl, v9, hb9, hr9, hB9, hrest9⟩
    have BK1 := Aside0.mk (hrest9 g1 _ _ BK1.out (by decide) (fun e => blk_ne BK1.out BK5.out (by decide) e))
    have BK5 := Aside0.mk hb9
    have RW := Aside0.mk hr9
    have HB := Aside0.mk hB9
    clear hb9 hr9 hB9 hrest9 c11
    have c11 : w9.cell? ⟨g1, 1, none⟩ = some (.slice A l.length c) := (blk_cell BK1.out 1).trans rfl
    go_wp2_with fail
    go_loopg [32] l.length (fun k v32 w' => ∃ (i : Nat) (v : Value) (xs : List Int), v32 = .int .i64 (i : Int) ∧ Aside0 (i ≤ l.length ∧ k = l.length - i) ∧ Aside0 (xs ++ (l.drop i).flatMap encS = y ∧ xs.length ≤ 10 + i * 16389) ∧ Aside0 (w'.heap[g1]? = some (.cells #[.int .u32 a, .slice A l.length c] 25 (0, 0))) ∧ Aside0 (w'.heap[g5]? = some (.cells #[v] 27 (0, 0))) ∧ Aside0 (Row w w' v xs) ∧ Aside0 (Below w.heap.size w w'))
    case atStart => exact ⟨0, _, _, rfl, ⟨Nat.zero_le _, rfl⟩, ⟨by rw [HE.out]; exact encL_start HA.out HO.out.2.1, by simp [le_length]⟩, BK1, BK5, RW, HB⟩
    case round =>
     clear BK1 BK5 RW HB c11
     obtain ⟨i, v, xs, rfl, HI, HX, BK1r, BK5r, RWr, HBr⟩ := hrel
     have hi0 := HI.out.1
     by_cases ci : i < l.length
     · have e1 : decide ((i : Int) < (l.length : Int)) = true := decide_eq_true (by omega)
       have p0 : 0 ≤ (i : Int) := by omega
       have q0 : (i : Int) < (l.length : Int) := by omega
       obtain ⟨ad, A2, c2, rfl, x0, x1, x2, l2, g2r⟩ := at_T45 HR.out i p0 q0
       rw [Int.toNat_natCast] at x0 x1 x2
       have x0 := cell_below HBr.out x0
       have x1 := cell_below HBr.out x1
       have x2 := cell_below HBr.out x2
       have hm := HO.out.2.2 _ (rd_mem ci)
       have HD : Aside0 (l.drop i = rd_T45 l (i : Int) :: l.drop (i + 1)) := ⟨rd_drop ci⟩
       generalize rd_T45 l (i : Int) = s at *
       obtain ⟨pg, pm, b⟩ := s
       simp only at x0 x1 x2 l2 g2r hm
       have HS := Aside0.mk g2r
       have HM := Aside0.mk hm
       have HSB : Aside0 (b.length ≤ 16384) := ⟨hm.2.2.2.2.2⟩
       have HXL : Aside0 (xs.length ≤ 262300) := ⟨by have := HX.out.2; have := HO.out.2.1; omega⟩
       have hw : wrap64 ((i : Int) + 1) = ((i + 1 : Nat) : Int) := by
         have := HO.out.2.1
         rw [w64 (by omega) (by omega)]
         omega
       have HW := Aside0.mk hw
       have hi' := Aside0.mk ci
       clear ci hi0 hw g2r hm
       go_wp2_with (first | ((with_reducible refine gate_dst (N := 8) rfl ?_); refine box_event ?hg (N := 8) ?hd (cs := #[.int .i64 0, .int .i64 0, .slice none 0 0]) (t := 45) ?hr ?_; (case hd => rfl); (case hg => rfl); (case hr => first | (go_simp; done) | (go_simp; rfl)); intro g8 hg wa hbox hb; have GE8 := Aside0.mk (show w.heap.size ≤ g8 by rw [hg]; exact HBr.out.size); have BK8 := Aside0.mk hbox; have BK1 := Aside0.mk (blk_below BK1r.out hb); have BK5 := Aside0.mk (blk_below BK5r.out hb); have RW := Aside0.mk (Kd.R_below RWr.out hb); have HB := Aside0.mk (below_step HBr.out hb); clear hg hbox hb x0 x1 x2; have a0 : wa.cell? ⟨g8, 0, none⟩ = some (.int .i64 0) := (blk_cell BK8.out 0).trans rfl; have a1 : wa.cell? ⟨g8, 1, none⟩ = some (.int .i64 0) := (blk_cell BK8.out 1).trans rfl; have a2 : wa.cell? ⟨g8, 2, none⟩ = some (.slice none 0 0) := (blk_cell BK8.out 2).trans rfl; have f0 := blk_frozen BK8.out 0; have f1 := blk_frozen BK8.out 1; have f2 := blk_frozen BK8.out 2) | ((with_reducible refine gate_store (t := 45) (p := 8) (v := .tmp 35) rfl ?_); refine store_event (t := 45) (p := 8) (v := .tmp 35) (w1 := ((wa.setCell ⟨g8, 0, none⟩ (.int .i64 pg)).setCell ⟨g8, 1, none⟩ (.int .i64 pm)).setCell ⟨g8, 2, none⟩ (.slice A2 b.length c2)) rfl rfl rfl ?hr ?_; (case hr => first | (go_simp; done) | (go_simp; rfl)); intro wb hw; have q8 := blk_put BK8.out 0 (.int .i64 pg) rfl; have q9 := blk_put q8 1 (.int .i64 pm) rfl; have BK1 : Aside0 (wb.heap[g1]? = some (.cells #[.int .u32 a, .slice (some ad) l.length c] 25 (0, 0))) := ⟨(by rw [hw]; exact (blk_far (blk_far (blk_far BK1.out (p := ⟨g8, 0, none⟩) (fun e => blk_ne BK1.out BK8.out (by decide) e) (.int .i64 pg)) (p := ⟨g8, 1, none⟩) (fun e => blk_ne BK1.out BK8.out (by decide) e) (.int .i64 pm)) (p := ⟨g8, 2, none⟩) (fun e => blk_ne BK1.out BK8.out (by decide) e) (.slice A2 b.length c2)))⟩; have BK5 : Aside0 (wb.heap[g5]? = some (.cells #[v] 27 (0, 0))) := ⟨(by rw [hw]; exact (blk_far (blk_far (blk_far BK5.out (p := ⟨g8, 0, none⟩) (fun e => blk_ne BK5.out BK8.out (by decide) e) (.int .i64 pg)) (p := ⟨g8, 1, none⟩) (fun e => blk_ne BK5.out BK8.out (by decide) e) (.int .i64 pm)) (p := ⟨g8, 2, none⟩) (fun e => blk_ne BK5.out BK8.out (by decide) e) (.slice A2 b.length c2)))⟩; have RW : Aside0 (Row w wb v xs) := ⟨(by rw [hw]; exact row_far q9 (by decide) (row_far q8 (by decide) (row_far BK8.out (by decide) RW.out)))⟩; have HB : Aside0 (Below w.heap.size w wb) := ⟨(by rw [hw]; exact below_set (below_set (below_set HB.out GE8.out) GE8.out) GE8.out)⟩; have BK8 : Aside0 (wb.heap[g8]? = some (.cells #[.int .i64 pg, .int .i64 pm, .slice A2 b.length c2] 45 (0, 0))) := ⟨(by rw [hw]; exact blk_put q9 2 _ rfl)⟩; clear hw q8 q9 a0 a1 a2 f0 f1 f2; have c80 : wb.cell? ⟨g8, 0, none⟩ = some (.int .i64 pg) := (blk_cell BK8.out 0).trans rfl))
       refine (enc1_calls pg 2 _ g5 _ w _ ⟨HM.out.1⟩ ⟨by have := HM.out; omega⟩ ⟨by decide⟩ ⟨by have := HXL.out; first | omega | (simp only [List.length_append, le_length]; omega)⟩ GE5 BK5 RW HB).mono ?_
       rintro e wc ⟨rfl, vc, hb, hr, hB, hrest⟩
       have BK1 := Aside0.mk (hrest g1 _ _ BK1.out (by decide) (fun e => blk_ne BK1.out BK5.out (by decide) e))
       have BK8 := Aside0.mk (hrest g8 _ _ BK8.out (by decide) (fun e => blk_ne BK8.out BK5.out (by decide) e))
       have BK5 := Aside0.mk hb
       have RW := Aside0.mk hr
       have HB := Aside0.mk hB
       clear hb hr hB hrest c80
       have c81 : wc.cell? ⟨g8, 1, none⟩ = some (.int .i64 pm) := (blk_cell BK8.out 1).trans rfl
       go_wp2_with fail
       refine (enc1_calls pm 1 _ g5 _ w _ ⟨by have := HM.out; omega⟩ ⟨by have := HM.out; omega⟩ ⟨by decide⟩ ⟨by have := HXL.out; first | omega | (simp only [List.length_append, le_length]; omega)⟩ GE5 BK5 RW HB).mono ?_
       rintro e wd ⟨rfl, vd, hb, hr, hB, hrest⟩
       have BK1 := Aside0.mk (hrest g1 _ _ BK1.out (by decide) (fun e => blk_ne BK1.out BK5.out (by decide) e))
       have BK8 := Aside0.mk (hrest g8 _ _ BK8.out (by decide) (fun e => blk_ne BK8.out BK5.out (by decide) e))
       have BK5 := Aside0.mk hb
       have RW := Aside0.mk hr
       have HB := Aside0.mk hB
       clear hb hr hB hrest c81
       have c82 : wd.cell? ⟨g8, 2, none⟩ = some (.slice A2 b.length c2) := (blk_cell BK8.out 2).trans rfl
       go_wp2_with fail
       refine (enc1_calls (b.length : Int) 2 _ g5 _ w _ ⟨by omega⟩ ⟨by have := HSB.out; omega⟩ ⟨by decide⟩ ⟨by have := HXL.out; first | omega | (simp only [List.length_append, le_length]; omega)⟩ GE5 BK5 RW HB).mono ?_
       rintro e we ⟨rfl, ve, hb, hr, hB, hrest⟩
       have BK1 := Aside0.mk (hrest g1 _ _ BK1.out (by decide) (fun e => blk_ne BK1.out BK5.out (by decide) e))
       have BK8 := Aside0.mk (hrest g8 _ _ BK8.out (by decide) (fun e => blk_ne BK8.out BK5.out (by decide) e))
       have BK5 := Aside0.mk hb
       have RW := Aside0.mk hr
       have HB := Aside0.mk hB
       clear hb hr hB hrest c82
       have c82 : we.cell? ⟨g8, 2, none⟩ = some (.slice A2 b.length c2) := (blk_cell BK8.out 2).trans rfl
       have c50 : we.cell? ⟨g5, 0, none⟩ = some ve := (blk_cell BK5.out 0).trans rfl
       go_wp2_with (first | ((with_reducible refine gate_builtin (b := .append) (xs := #[.tmp 49, .tmp 51]) rfl ?_); at_builtin; refine Kd.R_append_rows (Kd.int .u8) (w0 := w) w.heap.size rfl (.tmp 49) (.tmp 51) 27 5 (.int .u8 0) 1 rfl Try.underlying27 info5 rfl (by decide) (by omega) ve _ b A2 b.length c2 (fun _ => True) (fun _ => False) rfl rfl RW.out (Kd.C_below HS.out HB.out) (fun _ _ h => h) (fun _ h => h.elim) (fun _ _ => trivial) HB.out HB.out.size (by have := HXL.out; have := HSB.out; simp only [List.length_append, le_length]; omega) ?_; intro vf wf ho hb hgr _; obtain ⟨ys, hys⟩ : ∃ ys, ys = (xs ++ le pg 2 ++ le pm 1 ++ le (b.length : Int) 2 ++ b) := ⟨_, rfl⟩; rw [← hys] at ho; have HYS := Aside0.mk hys; clear hys; have BK1 := Aside0.mk (blk_grown BK1.out hgr (Kd.R_ne RW.out BK1.out (by decide))); have BK5 := Aside0.mk (blk_grown BK5.out hgr (Kd.R_ne RW.out BK5.out (by decide))); have RW := Aside0.mk (show Row w wf vf ys from ho); have HB := Aside0.mk hb; obtain ⟨Af, cf, rfl, _, _⟩ := Kd.R_reads ho; clear ho hb hgr c50 c82; have c50 : wf.cell? ⟨g5, 0, none⟩ = some ve := (blk_cell BK5.out 0).trans rfl; have f50 := blk_frozen BK5.out 0) | ((with_reducible refine gate_store (t := 27) (p := 5) (v := .tmp 52) rfl ?_); refine store_event (t := 27) (p := 5) (v := .tmp 52) (w1 := wf.setCell ⟨g5, 0, none⟩ (.slice Af ys.length cf)) rfl rfl rfl ?hr ?_; (case hr => first | (go_simp; done) | (go_simp; rfl)); intro wg hw; have BK1 : Aside0 (wg.heap[g1]? = some (.cells #[.int .u32 a, .slice (some ad) l.length c] 25 (0, 0))) := ⟨(by rw [hw]; exact blk_far BK1.out (fun e => blk_ne BK1.out BK5.out (by decide) e) _)⟩; have RW : Aside0 (Row w wg (.slice Af ys.length cf) ys) := ⟨(by rw [hw]; exact row_set BK5.out RW.out)⟩; have BK5 : Aside0 (wg.heap[g5]? = some (.cells #[.slice Af ys.length cf] 27 (0, 0))) := ⟨(by rw [hw]; exact blk_put BK5.out 0 _ rfl)⟩; have HB : Aside0 (Below w.heap.size w wg) := ⟨(by rw [hw]; exact below_set HB.out GE5.out)⟩; clear hw c50 f50))
       go_roundg (l.length - (i + 1))
       case measure =>
         have := hi'.out
         have := HI.out.2
         omega
       case rel => exact ⟨i + 1, _, ys, congrArg _ HW.out, ⟨hi'.out, rfl⟩, ⟨by rw [HYS.out, ← HX.out.1, HD.out, List.flatMap_cons, encS_is ⟨HM.out.1, HM.out.2.1⟩ HSB.out]; simp only [List.append_assoc], by have := HX.out.2; have := HSB.out; rw [HYS.out]; simp only [List.length_append, le_length]; omega⟩, BK1, BK5, RW, HB⟩
     · have e1 : decide ((i : Int) < (l.length : Int)) = false := decide_eq_false (by omega)
       have c50 : wr.cell? ⟨g5, 0, none⟩ = some v := (blk_cell BK5r.out 0).trans rfl
       obtain ⟨Af, cf, ef, _, _⟩ := Kd.R_reads RWr.out
       subst ef
       have HXe : Aside0 (xs = y) := ⟨by have := HX.out.1; rw [List.drop_of_length_le (by omega)] at this; simpa using this⟩
       go_wp2_with fail
       go_ret2
       exact ⟨.slice Af xs.length cf, by rw [HZ.out]; rfl, by rw [← HXe.out]; exact RWr.out, HBr.out⟩
  · have e0 : (r != 0) = true := by simp [h0]
    have HE := Aside0.mk (HY.out.trans (if_neg h0))
    clear HY
    clear h0
    go_wp2_with fail
    go_ret2
    exact ⟨_, rfl, by rw [HE.out]; exact Kd.R_nil _ _ _ _ _, HB.out⟩
end Go.Proofs.Ytiinflgoflkomaa.LoadEnc
