/- bulkheadlaw13.works answers true. -/
import Derived.Test.YtiinflgoflkomaaLoadW0
import Derived.Test.YtiinflgoflkomaaLoadFrames
import Derived.Lib.SlBytesConst
namespace Go.Proofs.Ytiinflgoflkomaa.LoadWorks
open Go.RowKit Go.Proofs.Ytiinflgoflkomaa.PLoadChecks Go.Proofs.YtiinflgoflkomaaW.PrintWords Go.Proofs.YtiinflgoflkomaaW.PrintLast Go.Proofs.YtiinflgoflkomaaW.PrintMore Go.Proofs.Ytiinflgoflkomaa.Aid Go.Proofs.Ytiinflgoflkomaa.LoadF Go.Proofs.Ytiinflgoflkomaa.LoadSame2 Go.Proofs.Ytiinflgoflkomaa.LoadEnc Go.Proofs.Ytiinflgoflkomaa.LoadPg Go.Proofs.Ytiinflgoflkomaa.LoadD4 Go.Proofs.Ytiinflgoflkomaa.LoadDec Go.Proofs.Ytiinflgoflkomaa.LoadW0
set_option linter.unusedVariables false
set_option linter.unusedSimpArgs false
theorem lit_row {w : World} {gs : Nat} {A : Option Addr} {c : Nat} (h : w.heap[gs]? = some (.cells #[.int .i64 1, .int .i64 5, .slice A 2 c] 45 (0, 0))) (hr : Kd.C (Kd.int .u8) w A 2 [7, 8]) (hc : 2 ≤ c) : Kd.C k45 w (some ⟨gs, 0, none⟩) 1 ex := by
  refine ⟨rfl, by decide, fun _ => ⟨_, rfl, fun j p hj => ?_⟩⟩
  match j, hj with
  | 0, hj =>
    obtain rfl : (⟨1, 5, [7, 8]⟩ : S45) = p := by simpa [ex] using hj
    refine ⟨_, rfl, k45_mk w (⟨1, 5, [7, 8]⟩ : S45) (A2 := A) (c2 := c) hc hr, fun i u hu => ?_⟩
    rw [Nat.zero_mul, Nat.zero_add, Go.WideShapes.add_plain, Nat.zero_add, blk_cell h]
    simpa using hu
  | j + 1, hj => simp [ex] at hj
theorem lit_bytes {w : World} {g : Nat} (h : w.heap[g]? = some (.cells #[.int .u8 86, .int .u8 82, .int .u8 73, .int .u8 77, .int .u8 1, .int .u8 0, .int .u8 1, .int .u8 0, .int .u8 0, .int .u8 1, .int .u8 1, .int .u8 0, .int .u8 5, .int .u8 2, .int .u8 0, .int .u8 7, .int .u8 8] 5 (17, 18))) : Kd.C (Kd.int .u8) w (some ⟨g, 0, none⟩) 17 exB := by
  refine Kd.C_of_reads (d := (0 : Int)) (h1 := fun _ => rfl) ⟨rfl, by decide, fun _ => ⟨_, rfl, fun j hj => ?_⟩⟩
  rw [Go.WideShapes.add_plain, Nat.zero_add, cell_of_row w g j _ 5 (17, 18) h]
  have : ∀ j, j < 17 → (#[.int .u8 86, .int .u8 82, .int .u8 73, .int .u8 77, .int .u8 1, .int .u8 0, .int .u8 1, .int .u8 0, .int .u8 0, .int .u8 1, .int .u8 1, .int .u8 0, .int .u8 5, .int .u8 2, .int .u8 0, .int .u8 7, .int .u8 8] : Array Value)[j]? = some (Value.int .u8 (exB.getD j 0)) := by
    intro j hj
    have e : j = 0 ∨ j = 1 ∨ j = 2 ∨ j = 3 ∨ j = 4 ∨ j = 5 ∨ j = 6 ∨ j = 7 ∨ j = 8 ∨ j = 9 ∨ j = 10 ∨ j = 11 ∨ j = 12 ∨ j = 13 ∨ j = 14 ∨ j = 15 ∨ j = 16 := by omega
    rcases e with rfl | rfl | rfl | rfl | rfl | rfl | rfl | rfl | rfl | rfl | rfl | rfl | rfl | rfl | rfl | rfl | rfl <;> rfl
  exact this j hj
theorem str_ex : (strOfNums exB).toList = [86, 82, 73, 77, 1, 0, 1, 0, 0, 1, 1, 0, 5, 2, 0, 7, 8] := by
  rw [Lib.strOfNums_toList]
  decide
set_option maxHeartbeats 3200000 in
set_option maxRecDepth 100000 in
theorem works_calls (w : World) : Calls Try.prog 18 #[] w fun e w' => e = .returned (.bool true) ∧ Below w.heap.size w w' := by
  go_enter Try.func18, Try.ntmps18
  go_wp2_with (first | ((with_reducible refine gate_dst (N := 6) rfl ?_); refine Kd.R_lit (Kd.int .u8) _ 5 rfl (N := 6) rfl (xs := ([7, 8] : List Int)) (inner := [.int .u8 7, .int .u8 8]) (ok := fun _ => True) (okp := fun _ => True) ?hr ?hp (fun _ hk => hk) trivial (Below.refl _ _) (Nat.le_refl _) (by simp) ?_; (case hr => first | (go_simp; done) | (go_simp; rfl)); (case hp => exact (Reps.one (show Kd.M (Kd.int .u8) _ _ _ 7 [.int .u8 7] from rfl) (Reps.one (show Kd.M (Kd.int .u8) _ _ _ 8 [.int .u8 8] from rfl) (Reps.none _ _)))); intro v9 w1 ho9 hb _ _; obtain ⟨A6, c6, rfl, hc6, hr6⟩ := Kd.R_reads ho9; have R6 := Aside0.mk hr6; have C6 := Aside0.mk hc6; have HB := Aside0.mk hb; clear ho9 hb hc6 hr6) | ((with_reducible refine gate_dst (N := 8) rfl ?_); refine Kd.event_run (v := .slice (some ⟨w1.heap.size, 0, none⟩) 1 1) (w1 := w1.alloc (.cells #[.int .i64 1, .int .i64 5, .slice A6 2 c6] 45)) rfl ?hr ?_; (case hr => first | (go_simp; done) | (go_simp; rfl)); have hb : Below w1.heap.size w1 (w1.alloc (.cells #[.int .i64 1, .int .i64 5, .slice A6 2 c6] 45)) := below_alloc (Below.refl _ _) _; have hx : (w1.alloc (.cells #[.int .i64 1, .int .i64 5, .slice A6 2 c6] 45)).heap[w1.heap.size]? = some (.cells #[.int .i64 1, .int .i64 5, .slice A6 2 c6] 45 (0, 0)) := heap_alloc_new _ _; obtain ⟨gs, hgs⟩ : ∃ gs, gs = w1.heap.size := ⟨_, rfl⟩; rw [← hgs] at hx; rw [← hgs]; generalize w1.alloc (.cells #[.int .i64 1, .int .i64 5, .slice A6 2 c6] 45) = w2 at *; have HX := Aside0.mk (lit_row hx (Kd.C_below R6.out hb) C6.out); have HB := Aside0.mk (below_step HB.out hb); clear hb hx hgs) | ((with_reducible refine gate_dst (N := 1) rfl ?_); refine box_event ?hg (N := 1) ?hd (cs := #[.int .u32 0, .slice none 0 0]) (t := 25) ?hr ?_; (case hd => rfl); (case hg => rfl); (case hr => first | (go_simp; done) | (go_simp; rfl)); intro g1 hg w3 hbox hb; have G1 := Aside0.mk (show w2.heap.size ≤ g1 by rw [hg]; exact Nat.le_refl _); have B1 := Aside0.mk hbox; have HB3 := Aside0.mk hb; clear hg hbox hb; have a0 : w3.cell? ⟨g1, 0, none⟩ = some (.int .u32 0) := (blk_cell B1.out 0).trans rfl; have a1 : w3.cell? ⟨g1, 1, none⟩ = some (.slice none 0 0) := (blk_cell B1.out 1).trans rfl; have f0 := blk_frozen B1.out 0; have f1 := blk_frozen B1.out 1) | ((with_reducible refine gate_store (t := 25) (p := 1) (v := .tmp 9) rfl ?_); refine store_event (t := 25) (p := 1) (v := .tmp 9) (w1 := (w3.setCell ⟨g1, 0, none⟩ (.int .u32 256)).setCell ⟨g1, 1, none⟩ (.slice (some ⟨gs, 0, none⟩) 1 1)) rfl rfl rfl ?hr ?_; (case hr => first | (go_simp; done) | (go_simp; rfl)); intro w4 hw; have q8 := blk_put B1.out 0 (.int .u32 256) rfl; have hb4 : Below w2.heap.size w2 w4 := (by rw [hw]; exact below_set (below_set HB3.out G1.out) G1.out); have HX := Aside0.mk (Kd.C_below HX.out hb4); have HB := Aside0.mk (below_step HB.out hb4); have B1 : Aside0 (w4.heap[g1]? = some (.cells #[.int .u32 256, .slice (some ⟨gs, 0, none⟩) 1 1] 25 (0, 0))) := ⟨(by rw [hw]; exact blk_put q8 1 _ rfl)⟩; clear hw q8 hb4 a0 a1 f0 f1 HB3; have c10 : w4.cell? ⟨g1, 0, none⟩ = some (.int .u32 256) := (blk_cell B1.out 0).trans rfl; have c11 : w4.cell? ⟨g1, 1, none⟩ = some (.slice (some ⟨gs, 0, none⟩) 1 1) := (blk_cell B1.out 1).trans rfl))
  refine (enc_calls (some ⟨gs, 0, none⟩) 1 256 ex _ HX.out (by decide) ex_sz (by decide)).mono ?_
  rintro e w5 ⟨v, he, hs, hb⟩
  rw [ex_ok] at he
  subst he
  rw [ex_enc] at hs
  obtain ⟨Ae, ce, rfl, _, hr⟩ := Kd.R_reads hs
  have HV := Aside0.mk hr
  have HX := Aside0.mk (Kd.C_below HX.out hb)
  have B1 := Aside0.mk (blk_below B1.out hb)
  have HB := Aside0.mk (below_step HB.out hb)
  clear hs hr hb
  go_wp2_with (first | ((with_reducible refine gate_dst (N := 17) rfl ?_); refine Kd.event_run (v := .slice (some ⟨w5.heap.size, 0, none⟩) 17 17) (w1 := w5.alloc (.cells #[.int .u8 86, .int .u8 82, .int .u8 73, .int .u8 77, .int .u8 1, .int .u8 0, .int .u8 1, .int .u8 0, .int .u8 0, .int .u8 1, .int .u8 1, .int .u8 0, .int .u8 5, .int .u8 2, .int .u8 0, .int .u8 7, .int .u8 8] 5 (17, 18))) rfl ?hr ?_; (case hr => have kc : (convert 27 27 (.slice (some ⟨w5.heap.size, 0, none⟩) 17 17)).run Try.prog (w5.alloc (.cells #[.int .u8 86, .int .u8 82, .int .u8 73, .int .u8 77, .int .u8 1, .int .u8 0, .int .u8 1, .int .u8 0, .int .u8 0, .int .u8 1, .int .u8 1, .int .u8 0, .int .u8 5, .int .u8 2, .int .u8 0, .int .u8 7, .int .u8 8] 5)) = .ok (.slice (some ⟨w5.heap.size, 0, none⟩) 17 17) (w5.alloc (.cells #[.int .u8 86, .int .u8 82, .int .u8 73, .int .u8 77, .int .u8 1, .int .u8 0, .int .u8 1, .int .u8 0, .int .u8 0, .int .u8 1, .int .u8 1, .int .u8 0, .int .u8 5, .int .u8 2, .int .u8 0, .int .u8 7, .int .u8 8] 5 (17, 18))) := Lib.run_convert_bytes_const w5 27 5 #[.int .u8 86, .int .u8 82, .int .u8 73, .int .u8 77, .int .u8 1, .int .u8 0, .int .u8 1, .int .u8 0, .int .u8 0, .int .u8 1, .int .u8 1, .int .u8 0, .int .u8 5, .int .u8 2, .int .u8 0, .int .u8 7, .int .u8 8] 17 17 Try.underlying27 Try.underlying5; first | (go_simp; done) | (go_simp; rfl)); have hb : Below w5.heap.size w5 (w5.alloc (.cells #[.int .u8 86, .int .u8 82, .int .u8 73, .int .u8 77, .int .u8 1, .int .u8 0, .int .u8 1, .int .u8 0, .int .u8 0, .int .u8 1, .int .u8 1, .int .u8 0, .int .u8 5, .int .u8 2, .int .u8 0, .int .u8 7, .int .u8 8] 5 (17, 18))) := below_alloc (Below.refl _ _) _; have hx : (w5.alloc (.cells #[.int .u8 86, .int .u8 82, .int .u8 73, .int .u8 77, .int .u8 1, .int .u8 0, .int .u8 1, .int .u8 0, .int .u8 0, .int .u8 1, .int .u8 1, .int .u8 0, .int .u8 5, .int .u8 2, .int .u8 0, .int .u8 7, .int .u8 8] 5 (17, 18))).heap[w5.heap.size]? = some (.cells #[.int .u8 86, .int .u8 82, .int .u8 73, .int .u8 77, .int .u8 1, .int .u8 0, .int .u8 1, .int .u8 0, .int .u8 0, .int .u8 1, .int .u8 1, .int .u8 0, .int .u8 5, .int .u8 2, .int .u8 0, .int .u8 7, .int .u8 8] 5 (17, 18)) := heap_alloc_new _ _; obtain ⟨gd, hgd⟩ : ∃ gd, gd = w5.heap.size := ⟨_, rfl⟩; rw [← hgd] at hx; rw [← hgd]; generalize w5.alloc (.cells #[.int .u8 86, .int .u8 82, .int .u8 73, .int .u8 77, .int .u8 1, .int .u8 0, .int .u8 1, .int .u8 0, .int .u8 0, .int .u8 1, .int .u8 1, .int .u8 0, .int .u8 5, .int .u8 2, .int .u8 0, .int .u8 7, .int .u8 8] 5 (17, 18)) = w6 at *; have HD := Aside0.mk (lit_bytes hx); have HX := Aside0.mk (Kd.C_below HX.out hb); have HV := Aside0.mk (Kd.C_below HV.out hb); have B1 := Aside0.mk (blk_below B1.out hb); have HB := Aside0.mk (below_step HB.out hb); clear hb hx hgd c10 c11))
  refine (dec_calls (some ⟨gd, 0, none⟩) 17 exB _ ⟨HD.out, by decide, by decide, by decide⟩).mono ?_
  rintro e w7 ⟨v, ev, he, hs, hev, hb⟩
  rw [ex_dec, outE_none] at he
  rw [ex_dec, outS_none] at hs
  rw [ex_dec] at hev
  have hev2 : ev = .nilIface := hev
  subst hev2
  subst he
  obtain ⟨A8, c8, rfl, hc8, hr8⟩ := Kd.S_reads hs
  have HW := Aside0.mk hr8
  have HC8 := Aside0.mk hc8
  have HX := Aside0.mk (Kd.C_below HX.out hb)
  have HV := Aside0.mk (Kd.C_below HV.out hb)
  have B1 := Aside0.mk (blk_below B1.out hb)
  have HB := Aside0.mk (below_step HB.out hb)
  clear hs hev hb hc8 hr8
  have e1 : ((strOfNums exB).toList == [86, 82, 73, 77, 1, 0, 1, 0, 0, 1, 1, 0, 5, 2, 0, 7, 8]) = true := by rw [str_ex]; decide
  go_wp2_with (first | ((with_reducible refine gate_dst (N := 4) rfl ?_); refine box_event ?hg (N := 4) ?hd (cs := #[.int .u32 0, .slice none 0 0]) (t := 25) ?hr ?_; (case hd => rfl); (case hg => rfl); (case hr => first | (go_simp; done) | (go_simp; rfl)); intro g4 hg w8 hbox hb; have G4 := Aside0.mk (show w7.heap.size ≤ g4 by rw [hg]; exact Nat.le_refl _); have B4 := Aside0.mk hbox; have HB8 := Aside0.mk hb; clear hg hbox hb; have a0 : w8.cell? ⟨g4, 0, none⟩ = some (.int .u32 0) := (blk_cell B4.out 0).trans rfl; have a1 : w8.cell? ⟨g4, 1, none⟩ = some (.slice none 0 0) := (blk_cell B4.out 1).trans rfl; have f0 := blk_frozen B4.out 0; have f1 := blk_frozen B4.out 1) | ((with_reducible refine gate_store (t := 25) (p := 4) (v := .tmp 19) rfl ?_); refine store_event (t := 25) (p := 4) (v := .tmp 19) (w1 := (w8.setCell ⟨g4, 0, none⟩ (.int .u32 256)).setCell ⟨g4, 1, none⟩ (.slice A8 1 c8)) rfl rfl rfl ?hr ?_; (case hr => first | (go_simp; done) | (go_simp; rfl)); intro w9 hw; have q8 := blk_put B4.out 0 (.int .u32 256) rfl; have hb4 : Below w7.heap.size w7 w9 := (by rw [hw]; exact below_set (below_set HB8.out G4.out) G4.out); have HX := Aside0.mk (Kd.C_below HX.out hb4); have HV := Aside0.mk (Kd.C_below HV.out hb4); have HW := Aside0.mk (Kd.C_below HW.out hb4); have B1 := Aside0.mk (blk_below B1.out hb4); have HB := Aside0.mk (below_step HB.out hb4); have B4 : Aside0 (w9.heap[g4]? = some (.cells #[.int .u32 256, .slice A8 1 c8] 25 (0, 0))) := ⟨(by rw [hw]; exact blk_put q8 1 _ rfl)⟩; clear hw q8 hb4 a0 a1 f0 f1 HB8; have c10 : w9.cell? ⟨g1, 0, none⟩ = some (.int .u32 256) := (blk_cell B1.out 0).trans rfl; have c11 : w9.cell? ⟨g1, 1, none⟩ = some (.slice (some ⟨gs, 0, none⟩) 1 1) := (blk_cell B1.out 1).trans rfl; have c40 : w9.cell? ⟨g4, 0, none⟩ = some (.int .u32 256) := (blk_cell B4.out 0).trans rfl; have c41 : w9.cell? ⟨g4, 1, none⟩ = some (.slice A8 1 c8) := (blk_cell B4.out 1).trans rfl; have cv := Kd.C_string (P := Try.prog) (A := Ae) (c := ce) Try.underlying27 Try.underlying5 Try.underlying9 HV.out))
  refine (same_calls A8 (some ⟨gs, 0, none⟩) c8 1 256 ex _ HW.out HC8.out HX.out (by decide) (by decide)).mono ?_
  rintro e w10 ⟨rfl, hb⟩
  have HX := Aside0.mk (Kd.C_below HX.out hb)
  have B1 := Aside0.mk (blk_below B1.out hb)
  have HB := Aside0.mk (below_step HB.out hb)
  clear hb c10 c11 c40 c41 cv
  have c10 : w10.cell? ⟨g1, 0, none⟩ = some (.int .u32 256) := (blk_cell B1.out 0).trans rfl
  have c11 : w10.cell? ⟨g1, 1, none⟩ = some (.slice (some ⟨gs, 0, none⟩) 1 1) := (blk_cell B1.out 1).trans rfl
  go_wp2_with fail
  refine (LoadFrames.frames_calls (some ⟨gs, 0, none⟩) 1 256 ex _ HX.out (by decide) ex_sz (by decide)).mono ?_
  rintro e w11 ⟨he, hb⟩
  rw [ex_fr] at he
  subst he
  have HB := Aside0.mk (below_step HB.out hb)
  clear hb
  go_wp2_with fail
  go_ret
  exact ⟨rfl, HB.out⟩
end Go.Proofs.Ytiinflgoflkomaa.LoadWorks
