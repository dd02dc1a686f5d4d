/- A channel more only lets more be felt: the walk of the law. -/
import Derived.Test.YtemblbcbkfkbfaaReachWorks
import Derived.Test.YtemblbcbkfkbfaaReachRecG
import Derived.BigQuiet
import Derived.Deep.DeepCutAuto
namespace Go.Proofs.Ytemblbcbkfkbfaa.LawGrows
open Go.RowKit Go.Proofs.Ytemblbcbkfkbfaa.PReachGrows Go.Proofs.YtemblbcbkfkbfaaW.PrintWords Go.Proofs.YtemblbcbkfkbfaaW.PrintLast Go.Proofs.YtemblbcbkfkbfaaW.PrintMore Go.Proofs.Ytemblbcbkfkbfaa.ReachPlainG Go.Proofs.Ytemblbcbkfkbfaa.ReachOutG Go.Proofs.Ytemblbcbkfkbfaa.ReachWorks Go.Proofs.Ytemblbcbkfkbfaa.Aid
set_option linter.unusedVariables false
set_option linter.unusedSimpArgs false
set_option maxRecDepth 100000
theorem info31b : (Try.prog.info? 31).map (fun i => (i.zero, i.size, i.bytes)) = some (some (.agg #[(.int .i64 0), (.int .i64 0), (.int .i64 0), (.int .i64 0), (.int .i64 0)]), 5, 40) := by kernel_rfl
theorem filter_le {α : Type} (p q : α → Bool) : ∀ M : List α, (∀ x ∈ M, q x = true → p x = true) → (M.filter q).length ≤ (M.filter p).length := by
  intro M
  induction M with
  | nil => intro _; exact Nat.le_refl _
  | cons b M ih =>
    intro hM
    have ih' := ih fun y hy => hM y (List.mem_cons_of_mem _ hy)
    have hb := hM b List.mem_cons_self
    cases hqb : q b <;> cases hpb : p b <;> simp [hqb, hpb] at hb ⊢ <;> omega
/-- A channel more: a greater set. -/
theorem out_more {n : Nat} {cs : List S31} {h : S31} {q : Int} {r r' : List Int} (a : out n cs q r) (b : out n (cs ++ [h]) q r') : (∀ x ∈ r, x ∈ r') ∧ r.length ≤ r'.length := by
  by_cases c : inR n q
  · obtain ⟨s, h1, rfl⟩ := a.2 c
    obtain ⟨t, k1, rfl⟩ := b.2 c
    have key : ∀ p, s p = true → t p = true := h1.1.2.2 (fun p => t p = true) k1.1.1 k1.1.2.1 (fun x hx => k1.2 x (List.mem_append_left _ hx))
    refine ⟨fun x hx => ?_, ?_⟩
    · rw [outB_mem] at hx ⊢
      exact ⟨hx.1, key _ hx.2⟩
    · unfold outB
      rw [List.length_map, List.length_map]
      exact filter_le _ _ _ fun x _ => key _
  · rw [a.1 c]
    exact ⟨fun x hx => absurd hx (by simp), Nat.zero_le _⟩
theorem out_back {n : Nat} {cs : List S31} {q : Int} {r r' : List Int} (a : out n cs q r) (b : out n cs.reverse q r') : r = r' := by
  refine out_uniq (q := q) a ⟨b.1, fun c => ?_⟩
  obtain ⟨t, k1, k2⟩ := b.2 c
  refine ⟨t, ⟨⟨k1.1.1, k1.1.2.1, fun T t1 t2 t3 => k1.1.2.2 T t1 t2 fun x hx => t3 x (List.mem_reverse.1 hx)⟩, fun x hx => k1.2 x (List.mem_reverse.2 hx)⟩, k2⟩
set_option maxHeartbeats 1600000 in
theorem many (x0 x1 x2 x3 x4 x5 : Int) (A6 A7 A8 : Option Addr) (n6 k6 n7 k7 k8 : Nat) (cs : List S31) (h0 h1 h2 h3 h4 q : Int) (w : World) (h : Aside0 (40 < n6 ∨ 40 < cs.length)) :
    Calls Try.prog 5 #[.agg #[.int .i64 x0, .int .i64 x1, .int .i64 x2, .int .i64 x3, .int .i64 x4, .int .i64 x5, .slice A6 n6 k6, .slice A7 n7 k7, .slice A8 cs.length k8], .agg #[.int .i64 h0, .int .i64 h1, .int .i64 h2, .int .i64 h3, .int .i64 h4], .int .i64 q] w fun e w' => e = .returned (.bool true) ∧ Below w.heap.size w w' := by
  have key : Aside0 (w.heap.size < ((w.alloc (.cells #[.int .i64 x0, .int .i64 x1, .int .i64 x2, .int .i64 x3, .int .i64 x4, .int .i64 x5, .slice A6 n6 k6, .slice A7 n7 k7, .slice A8 cs.length k8] 26)).alloc (.cells #[.int .i64 h0, .int .i64 h1, .int .i64 h2, .int .i64 h3, .int .i64 h4] 31)).heap.size ∧ ((w.alloc (.cells #[.int .i64 x0, .int .i64 x1, .int .i64 x2, .int .i64 x3, .int .i64 x4, .int .i64 x5, .slice A6 n6 k6, .slice A7 n7 k7, .slice A8 cs.length k8] 26)).alloc (.cells #[.int .i64 h0, .int .i64 h1, .int .i64 h2, .int .i64 h3, .int .i64 h4] 31)).heap[w.heap.size]? = some (.cells #[.int .i64 x0, .int .i64 x1, .int .i64 x2, .int .i64 x3, .int .i64 x4, .int .i64 x5, .slice A6 n6 k6, .slice A7 n7 k7, .slice A8 cs.length k8] 26 (0, 0))) := ⟨by simp; omega, blk_alloc (blk_new _ _) _⟩
  have HB1 : Aside0 (Below w.heap.size w ((w.alloc (.cells #[.int .i64 x0, .int .i64 x1, .int .i64 x2, .int .i64 x3, .int .i64 x4, .int .i64 x5, .slice A6 n6 k6, .slice A7 n7 k7, .slice A8 cs.length k8] 26)).alloc (.cells #[.int .i64 h0, .int .i64 h1, .int .i64 h2, .int .i64 h3, .int .i64 h4] 31))) := ⟨by repeat (first | exact Below.refl _ _ | apply below_alloc)⟩
  go_enter Try.func5, Try.ntmps5
  go_wp2_with fail
  refine (works_calls _).mono ?_
  rintro e w1 ⟨rfl, hB⟩
  have c6 : w1.cell? ⟨w.heap.size, 6, none⟩ = some (.slice A6 n6 k6) := ((hB.cell (p := ⟨w.heap.size, 6, none⟩) key.out.1).trans (blk_cell key.out.2 6)).trans rfl
  have c8 : w1.cell? ⟨w.heap.size, 8, none⟩ = some (.slice A8 cs.length k8) := ((hB.cell (p := ⟨w.heap.size, 8, none⟩) key.out.1).trans (blk_cell key.out.2 8)).trans rfl
  have HE := Aside0.mk (below_step HB1.out hB)
  clear hB key HB1
  by_cases c : 40 < n6
  · go_wp2
    go_ret
    exact ⟨rfl, HE.out⟩
  · have c2 : 40 < cs.length := by
      have := h.out
      omega
    go_wp2
    go_ret
    exact ⟨rfl, HE.out⟩
theorem prog_calls2 (x0 x1 x2 x3 x4 x5 : Int) (A6 A7 A8 : Option Addr) (n k6 n7 k7 n8 k8 : Nat) (cs : List S31) (hl : cs.length = n8) (q : Int) (w : World) (hn : n ≤ 1000) (hcl : n8 ≤ 1000) (hr : Kd.C k31 w A8 cs.length cs) :
    Calls Try.prog 6 #[.agg #[.int .i64 x0, .int .i64 x1, .int .i64 x2, .int .i64 x3, .int .i64 x4, .int .i64 x5, .slice A6 n k6, .slice A7 n7 k7, .slice A8 n8 k8], .int .i64 q] w fun e w' => ∃ v r, e = .returned v ∧ out n cs q r ∧ Kd.R (Kd.int .i64) 3 w' w.heap.size (fun _ => True) v r ∧ Below w.heap.size w w' := by
  subst hl
  exact prog_calls x0 x1 x2 x3 x4 x5 A6 A7 A8 n k6 n7 k7 k8 cs q w hn hcl hr
theorem rd_memi {l : List Int} {i : Nat} (h : i < l.length) : rd l (i : Int) ∈ l := by
  have : rd l (i : Int) = l[i] := by simp [rd, h]
  rw [this]
  exact List.getElem_mem h
theorem take_memi {l : List Int} {x : Int} {k : Nat} (h : k < l.length) : decide (x ∈ l.take (k + 1)) = (decide (x ∈ l.take k) || (rd l (k : Int) == x)) := by
  have e : rd l (k : Int) = l[k] := by simp [rd, h]
  rw [List.take_succ_eq_append_getElem h, e, Bool.eq_iff_iff]
  simp only [decide_eq_true_eq, List.mem_append, List.mem_singleton, Bool.or_eq_true, beq_iff_eq]
  constructor
  · rintro (a | a)
    · exact .inl a
    · exact .inr a.symm
  · rintro (a | a)
    · exact .inl a
    · exact .inr a.symm
theorem back_step (cs : List S31) {m : Nat} (h : m < cs.length) : (cs.drop m).reverse = (cs.drop (m + 1)).reverse ++ [rd_T31 cs (m : Int)] := by
  rw [List.drop_eq_getElem_cons h, List.reverse_cons]
  simp [rd_T31, h]
set_option maxHeartbeats 3200000 in
theorem few (x0 x1 x2 x3 x4 x5 : Int) (A6 A7 A8 : Option Addr) (n6 k6 n7 k7 k8 : Nat) (cs : List S31) (h0 h1 h2 h3 h4 q : Int) (w : World) (hn : n6 ≤ 40) (hcl : cs.length ≤ 40) (H8 : Aside0 (Kd.C k31 w A8 cs.length cs)) :
    Calls Try.prog 5 #[.agg #[.int .i64 x0, .int .i64 x1, .int .i64 x2, .int .i64 x3, .int .i64 x4, .int .i64 x5, .slice A6 n6 k6, .slice A7 n7 k7, .slice A8 cs.length k8], .agg #[.int .i64 h0, .int .i64 h1, .int .i64 h2, .int .i64 h3, .int .i64 h4], .int .i64 q] w fun e w' => e = .returned (.bool true) ∧ Below w.heap.size w w' := by
  obtain ⟨CF, hCF⟩ : ∃ CF : Array Value, CF = #[.int .i64 x0, .int .i64 x1, .int .i64 x2, .int .i64 x3, .int .i64 x4, .int .i64 x5, .slice A6 n6 k6, .slice A7 n7 k7, .slice A8 cs.length k8] := ⟨_, rfl⟩
  have HCF := Aside0.mk hCF
  clear hCF
  have BC0 : Aside0 (((w.alloc (.cells CF 26)).alloc (.cells #[.int .i64 h0, .int .i64 h1, .int .i64 h2, .int .i64 h3, .int .i64 h4] 31)).heap[w.heap.size]? = some (.cells CF 26 (0, 0))) := ⟨blk_alloc (blk_new _ _) _⟩
  have BH0 : Aside0 (((w.alloc (.cells CF 26)).alloc (.cells #[.int .i64 h0, .int .i64 h1, .int .i64 h2, .int .i64 h3, .int .i64 h4] 31)).heap[w.heap.size + 1]? = some (.cells #[.int .i64 h0, .int .i64 h1, .int .i64 h2, .int .i64 h3, .int .i64 h4] 31 (0, 0))) := ⟨by
    have h := blk_new (w.alloc (.cells CF 26)) (.cells #[.int .i64 h0, .int .i64 h1, .int .i64 h2, .int .i64 h3, .int .i64 h4] 31)
    simpa using h⟩
  have HB0 : Aside0 (Below w.heap.size w ((w.alloc (.cells CF 26)).alloc (.cells #[.int .i64 h0, .int .i64 h1, .int .i64 h2, .int .i64 h3, .int .i64 h4] 31))) := ⟨by repeat (first | exact Below.refl _ _ | apply below_alloc)⟩
  go_enter Try.func5, Try.ntmps5
  go_wp2_with fail
  rw [← HCF.out]
  generalize (w.alloc (.cells CF 26)).alloc (.cells #[.int .i64 h0, .int .i64 h1, .int .i64 h2, .int .i64 h3, .int .i64 h4] 31) = W0 at *
  refine (works_calls _).mono ?_
  rintro e w1 ⟨rfl, hB⟩
  have BC1 := Aside0.mk ((hB.block _ (blk_lt BC0.out)).trans BC0.out)
  have BH1 := Aside0.mk ((hB.block _ (blk_lt BH0.out)).trans BH0.out)
  have HB1 := Aside0.mk (below_step HB0.out hB)
  clear hB BC0 BH0 HB0
  have d1 : decide ((40 : Int) < (n6 : Int)) = false := decide_eq_false (by omega)
  have d2 : decide (40 < n6) = false := decide_eq_false (by omega)
  have d3 : decide ((40 : Int) < (cs.length : Int)) = false := decide_eq_false (by omega)
  have d4 : decide (40 < cs.length) = false := decide_eq_false (by omega)
  have cc0 : w1.cell? ⟨w.heap.size, 0, none⟩ = some (.int .i64 x0) := (blk_cell BC1.out 0).trans (by rw [HCF.out]; rfl)
  have cc1 : w1.cell? ⟨w.heap.size, 1, none⟩ = some (.int .i64 x1) := (blk_cell BC1.out 1).trans (by rw [HCF.out]; rfl)
  have cc2 : w1.cell? ⟨w.heap.size, 2, none⟩ = some (.int .i64 x2) := (blk_cell BC1.out 2).trans (by rw [HCF.out]; rfl)
  have cc3 : w1.cell? ⟨w.heap.size, 3, none⟩ = some (.int .i64 x3) := (blk_cell BC1.out 3).trans (by rw [HCF.out]; rfl)
  have cc4 : w1.cell? ⟨w.heap.size, 4, none⟩ = some (.int .i64 x4) := (blk_cell BC1.out 4).trans (by rw [HCF.out]; rfl)
  have cc5 : w1.cell? ⟨w.heap.size, 5, none⟩ = some (.int .i64 x5) := (blk_cell BC1.out 5).trans (by rw [HCF.out]; rfl)
  have cc6 : w1.cell? ⟨w.heap.size, 6, none⟩ = some (.slice A6 n6 k6) := (blk_cell BC1.out 6).trans (by rw [HCF.out]; rfl)
  have cc7 : w1.cell? ⟨w.heap.size, 7, none⟩ = some (.slice A7 n7 k7) := (blk_cell BC1.out 7).trans (by rw [HCF.out]; rfl)
  have cc8 : w1.cell? ⟨w.heap.size, 8, none⟩ = some (.slice A8 cs.length k8) := (blk_cell BC1.out 8).trans (by rw [HCF.out]; rfl)
  go_upto_region 6 with fail
  clear d1 d2 d3 d4 cc0 cc1 cc2 cc3 cc4 cc5 cc6 cc7 cc8
  rw [← HCF.out]
  have BC2 := Aside0.mk (blk_alloc BC1.out (.cells CF 26))
  have BH2 := Aside0.mk (blk_alloc BH1.out (.cells CF 26))
  have BO2 := Aside0.mk (blk_new w1 (.cells CF 26))
  have HB2 := Aside0.mk (below_alloc HB1.out (.cells CF 26))
  have hgo := blk_lt BH1.out
  clear BC1 BH1 HB1
  generalize w1.alloc (.cells CF 26) = W2 at *
  obtain ⟨go, hgo2⟩ : ∃ g, w1.heap.size = g := ⟨_, rfl⟩
  rw [hgo2] at hgo BO2 ⊢
  clear hgo2
  have f8 : Aside0 (CF[8]? = some (.slice A8 cs.length k8)) := ⟨by rw [HCF.out]; rfl⟩
  go_upto_region 7 with (first | ((with_reducible refine gate_dst (N := 30) rfl ?_); refine Kd.R_lit k31 (w0 := W2) W2.heap.size 31 (by rfl) (N := 30) rfl (xs := ([] : List S31)) (inner := []) (ok := fun _ => True) (okp := fun _ => True) (by first | (go_simp; done) | (go_simp; rfl)) (Reps.none _ _) (fun _ hk => hk) trivial (Below.refl _ _) (Nat.le_refl _) (by simp) ?_; intro v3 w3 ho hb hg hat; have HB3O := Aside0.mk ho; have HB3 := Aside0.mk hb; clear ho hb hg hat; have cc8 := ((HB3.out.cell (p := ⟨w.heap.size, 8, none⟩) (blk_lt BC2.out)).trans (blk_cell BC2.out 8)).trans f8.out) | (at_builtin; refine Kd.R_append_rows k31 (w0 := W2) W2.heap.size rfl (.tmp 30) (.tmp 32) 24 31 (.agg #[(.int .i64 0), (.int .i64 0), (.int .i64 0), (.int .i64 0), (.int .i64 0)]) 40 rfl Try.underlying24 info31b rfl (by decide) (by omega) v3 [] cs A8 cs.length k8 (fun _ => True) (fun _ => False) rfl rfl HB3O.out (Kd.C_below H8.out (below_step HB2.out HB3.out)) (fun _ _ h => h) (fun _ h => h.elim) (fun _ _ => trivial) HB3.out HB3.out.size (by simp; omega) ?_; intro v4 w4 ho hb hg hat; simp only [List.nil_append] at ho; have HB4O := Aside0.mk ho; have HB4 := Aside0.mk hb; clear ho hb hg hat; obtain ⟨A2, k2, rfl, hk2, hC2⟩ := Kd.R_reads HB4O.out; clear hk2 hC2; have BO4 := Aside0.mk ((HB4.out.block go (blk_lt BO2.out)).trans BO2.out); have g8 := (blk_cell BO4.out 8).trans f8.out; have z8 := blk_frozen BO4.out 8))
  have BO5 := Aside0.mk (blk_put BO4.out 8 (.slice A2 cs.length k2) rfl)
  have BC5 := Aside0.mk (blk_far ((HB4.out.block w.heap.size (blk_lt BC2.out)).trans BC2.out) (p := ⟨go, 8, none⟩) (show w.heap.size ≠ go by omega) (.slice A2 cs.length k2))
  have BH5 := Aside0.mk (blk_far ((HB4.out.block (w.heap.size + 1) (blk_lt BH2.out)).trans BH2.out) (p := ⟨go, 8, none⟩) (blk_ne BH2.out BO2.out (by decide)) (.slice A2 cs.length k2))
  have HV5 := Aside0.mk (Kd.R_set HB4O.out BO4.out (by decide) 8 (.slice A2 cs.length k2))
  have HB5 := Aside0.mk (below_set (j := 8) (v := .slice A2 cs.length k2) (below_step HB2.out HB4.out) (show w.heap.size ≤ go by omega))
  clear HB3 HB3O HB4O BO2 BC2 BH2 BO4 g8 z8 cc8
  generalize w4.setCell ⟨go, 8, none⟩ (.slice A2 cs.length k2) = W5 at *
  clear HB4 HB2
  have cc0 : W5.cell? ⟨w.heap.size, 0, none⟩ = some (.int .i64 x0) := (blk_cell BC5.out 0).trans (by rw [HCF.out]; rfl)
  have cc1 : W5.cell? ⟨w.heap.size, 1, none⟩ = some (.int .i64 x1) := (blk_cell BC5.out 1).trans (by rw [HCF.out]; rfl)
  have cc2 : W5.cell? ⟨w.heap.size, 2, none⟩ = some (.int .i64 x2) := (blk_cell BC5.out 2).trans (by rw [HCF.out]; rfl)
  have cc3 : W5.cell? ⟨w.heap.size, 3, none⟩ = some (.int .i64 x3) := (blk_cell BC5.out 3).trans (by rw [HCF.out]; rfl)
  have cc4 : W5.cell? ⟨w.heap.size, 4, none⟩ = some (.int .i64 x4) := (blk_cell BC5.out 4).trans (by rw [HCF.out]; rfl)
  have cc5 : W5.cell? ⟨w.heap.size, 5, none⟩ = some (.int .i64 x5) := (blk_cell BC5.out 5).trans (by rw [HCF.out]; rfl)
  have cc6 : W5.cell? ⟨w.heap.size, 6, none⟩ = some (.slice A6 n6 k6) := (blk_cell BC5.out 6).trans (by rw [HCF.out]; rfl)
  have cc7 : W5.cell? ⟨w.heap.size, 7, none⟩ = some (.slice A7 n7 k7) := (blk_cell BC5.out 7).trans (by rw [HCF.out]; rfl)
  have cc8 : W5.cell? ⟨w.heap.size, 8, none⟩ = some (.slice A8 cs.length k8) := (blk_cell BC5.out 8).trans (by rw [HCF.out]; rfl)
  have hltc := blk_lt BC5.out
  go_cut [8, 9] (fun s8 s9 wx => ∃ g8 g9 : Nat, s8 = .pointer (some ⟨g8, 0, none⟩) ∧ s9 = .pointer (some ⟨g9, 0, none⟩) ∧ Aside0 (g8 ≠ g9 ∧ W5.heap.size ≤ g8 ∧ W5.heap.size ≤ g9) ∧ Aside0 (wx.heap[g8]? = some (.cells CF 26 (0, 0))) ∧ Aside0 (wx.heap[g9]? = some (.cells CF 26 (0, 0))) ∧ Aside0 (Below W5.heap.size W5 wx))
  case first =>
    have H2 : ∀ (o o' : Obj), Aside0 (((W5.alloc o).alloc o').drew.heap[W5.heap.size]? = some o ∧ ((W5.alloc o).alloc o').drew.heap[W5.heap.size + 1]? = some o' ∧ Below W5.heap.size W5 ((W5.alloc o).alloc o').drew) := fun o o' => ⟨by
      refine ⟨blk_alloc (blk_new W5 o) o', ?_, by repeat (first | exact Below.refl _ _ | apply below_alloc | apply below_drew1)⟩
      have h := blk_new (W5.alloc o) o'
      have e : (W5.alloc o).heap.size = W5.heap.size + 1 := by simp
      rw [e] at h
      exact h⟩
    go_region
    · go_wp2_with fail
      rw [← HCF.out]
      go_meet
      exact ⟨_, _, rfl, rfl, ⟨by omega, by omega, by omega⟩, ⟨(H2 _ _).out.1⟩, ⟨(H2 _ _).out.2.1⟩, ⟨(H2 _ _).out.2.2⟩⟩
    · go_wp2_with fail
      rw [← HCF.out]
      go_meet
      exact ⟨_, _, rfl, rfl, ⟨by omega, by omega, by omega⟩, ⟨(H2 _ _).out.2.1⟩, ⟨(H2 _ _).out.1⟩, ⟨(H2 _ _).out.2.2⟩⟩
  case rest =>
    obtain ⟨g8, g9, rfl, rfl, HG, B8, B9, HB6⟩ := hcut
    clear hltc cc0 cc1 cc2 cc3 cc4 cc5 cc6 cc7 cc8
    go_wp2_with fail
    have H85 := Aside0.mk (Kd.C_below H8.out HB5.out)
    go_cut [43] (fun s43 wx => ∃ (A43 : Option Addr) (c43 : Nat), Aside0 (wx.heap[g8]? = some (.cells (CF.setIfInBounds 8 (.slice A43 (cs.length + 1) c43)) 26 (0, 0))) ∧ Aside0 (Kd.R k31 31 wx W5.heap.size (fun _ => True) (.slice A43 (cs.length + 1) c43) (cs ++ [(⟨h0, h1, h2, h3, h4⟩ : S31)])) ∧ Aside0 (wx.heap[g9]? = some (.cells CF 26 (0, 0))) ∧ Aside0 (Below W5.heap.size W5 wx))
    case first =>
      have B8 := Aside0.mk (blk_drew B8.out)
      have B9 := Aside0.mk (blk_drew B9.out)
      have Hs0 := Aside0.mk (below_drew1 HB6.out)
      refine start_ (n := 9) (S := fun w' => Below W5.heap.size W5 w') (ds := []) #[false, false, false, false, false, false, false, false, false] (by kernel_rfl) rfl rfl Hs0.out (fun hs => ?_)
      have Hs := Aside0.mk hs
      clear hs Hs0
      refine pure_ (i := 1) (N := some 38) (v := ?_) (a' := ?_) #[false, true, false, false, false, false, false, false, false] rfl rfl (by kernel_rfl) (fun _ _ _ h => h) (Or.inl ⟨by rfl, ?_⟩) ?_ ?_
      rotate_left
      · intro w'
        go_simp
        with_reducible rfl
      rotate_left
      · simp only [Act.put, List.setIfInBounds_toArray, List.set_cons_zero, List.set_cons_succ]
        rfl
      refine take_ (i := 2) (N := some 39) (v := .slice A8 cs.length k8) #[false, true, true, false, false, false, false, false, false] rfl rfl (by kernel_rfl) (fun _ _ _ h => h) (Or.inl ⟨by rfl, ?_⟩) ?_ (a' := ?_) ?_ ?_
      · intro w' hS
        have hx := ((hS.cell (p := ⟨w.heap.size, 8, none⟩) (blk_lt BC5.out)).trans (blk_cell BC5.out 8)).trans f8.out
        go_simp
      · exact Hs.out
      rotate_left
      · simp only [Act.put, List.setIfInBounds_toArray, List.set_cons_zero, List.set_cons_succ]
        rfl
      refine take_ (i := 4) (N := some 41) (v := .agg #[.int .i64 h0, .int .i64 h1, .int .i64 h2, .int .i64 h3, .int .i64 h4]) #[false, true, true, false, true, false, false, false, false] rfl rfl (by kernel_rfl) (fun _ _ _ h => h) (Or.inl ⟨by rfl, ?_⟩) ?_ (a' := ?_) ?_ ?_
      · intro w' hS
        have hx0 : w'.cell? ⟨w.heap.size + 1, 0, none⟩ = some (.int .i64 h0) := ((hS.cell (p := ⟨w.heap.size + 1, 0, none⟩) (blk_lt BH5.out)).trans (blk_cell BH5.out 0)).trans rfl
        have hx1 : w'.cell? ⟨w.heap.size + 1, 1, none⟩ = some (.int .i64 h1) := ((hS.cell (p := ⟨w.heap.size + 1, 1, none⟩) (blk_lt BH5.out)).trans (blk_cell BH5.out 1)).trans rfl
        have hx2 : w'.cell? ⟨w.heap.size + 1, 2, none⟩ = some (.int .i64 h2) := ((hS.cell (p := ⟨w.heap.size + 1, 2, none⟩) (blk_lt BH5.out)).trans (blk_cell BH5.out 2)).trans rfl
        have hx3 : w'.cell? ⟨w.heap.size + 1, 3, none⟩ = some (.int .i64 h3) := ((hS.cell (p := ⟨w.heap.size + 1, 3, none⟩) (blk_lt BH5.out)).trans (blk_cell BH5.out 3)).trans rfl
        have hx4 : w'.cell? ⟨w.heap.size + 1, 4, none⟩ = some (.int .i64 h4) := ((hS.cell (p := ⟨w.heap.size + 1, 4, none⟩) (blk_lt BH5.out)).trans (blk_cell BH5.out 4)).trans rfl
        go_simp
      · exact Hs.out
      rotate_left
      · simp only [Act.put, List.setIfInBounds_toArray, List.set_cons_zero, List.set_cons_succ]
        rfl
      refine two_ (i := 0) (j := 5) (Ni := some 37) (Nj := some 42) #[true, true, true, false, true, false, false, false, false] #[false, true, true, false, true, true, false, false, false] rfl rfl rfl rfl (by kernel_rfl) (by decide) (by decide) (fun K hK => ?_) (fun K hK => ?_)
      · skip
        refine Kd.R_lit_step k31 (w0 := W5) W5.heap.size 31 (by rfl) (N := 37) rfl (xs := ([] : List S31)) (inner := []) (ok := fun _ => True) (okp := fun _ => True) (by first | (go_simp; done) | (go_simp; rfl)) (Reps.none _ _) (fun _ hk => hk) trivial Hs.out Hs.out.size (by simp) ?_
        intro v37 wn ho hb hg hat
        obtain ⟨g37, hg37, hge37⟩ := hat
        have HV37 := Aside0.mk ho
        have hG37 := Aside0.mk hg37
        have B8 := Aside0.mk (blk_grown B8.out hg (by simp))
        have B9 := Aside0.mk (blk_grown B9.out hg (by simp))
        refine hK.out _ _ hb (fun hs => ?_)
        clear hK K Hs hb hg ho hg37 hge37
        have Hs := Aside0.mk hs
        clear hs
        refine norm_ (a' := ?_) ?_ ?_
        rotate_left
        · show Act.put _ (some 37) _ = _
          simp only [Act.put, List.setIfInBounds_toArray, List.set_cons_zero, List.set_cons_succ]
          rfl
        refine two_ (i := 3) (j := 5) (Ni := some 40) (Nj := some 42) #[true, true, true, true, true, false, false, false, false] #[true, true, true, false, true, true, false, false, false] rfl rfl rfl rfl (by kernel_rfl) (by decide) (by decide) (fun K hK => ?_) (fun K hK => ?_)
        · skip
          refine Kd.R_append_rows_step k31 (w0 := W5) W5.heap.size (by rfl) (.tmp 37) (.tmp 39) 24 31 (.agg #[(.int .i64 0), (.int .i64 0), (.int .i64 0), (.int .i64 0), (.int .i64 0)]) 40 rfl Try.underlying24 info31b rfl (by decide) (by omega) v37 [] cs A8 cs.length k8 (fun _ => True) (fun _ => False) rfl rfl HV37.out (Kd.C_below H85.out Hs.out) (fun _ _ h => h) (fun _ h => h.elim) (fun _ _ => trivial) Hs.out Hs.out.size (by first | omega | (simp; omega)) ?_
          intro v40 wn ho hb hg hat
          simp only [List.nil_append] at ho
          have B8 := Aside0.mk (blk_grown B8.out hg (Kd.R_ne HV37.out B8.out (by decide)))
          have B9 := Aside0.mk (blk_grown B9.out hg (Kd.R_ne HV37.out B9.out (by decide)))
          have HV40 := Aside0.mk ho
          refine hK.out _ _ hb (fun hs => ?_)
          clear hK K Hs hb hg ho hat HV37
          have Hs := Aside0.mk hs
          clear hs
          refine norm_ (a' := ?_) ?_ ?_
          rotate_left
          · show Act.put _ (some 40) _ = _
            simp only [Act.put, List.setIfInBounds_toArray, List.set_cons_zero, List.set_cons_succ]
            rfl
          refine one_ (i := 5) (N := some 42) #[true, true, true, true, true, true, false, false, false] rfl rfl (by kernel_rfl) (by decide) (fun K hK => ?_)
          refine Kd.R_lit_step k31 (w0 := W5) W5.heap.size 31 (by rfl) (N := 42) rfl (xs := ([(⟨h0, h1, h2, h3, h4⟩ : S31)] : List S31)) (inner := [.int .i64 h0, .int .i64 h1, .int .i64 h2, .int .i64 h3, .int .i64 h4]) (ok := fun _ => True) (okp := fun _ => True) (by first | (go_simp; done) | (go_simp; rfl)) (Reps.c5 (show Kd.M k31 _ _ _ (⟨h0, h1, h2, h3, h4⟩ : S31) [.int .i64 h0, .int .i64 h1, .int .i64 h2, .int .i64 h3, .int .i64 h4] from k31_mkM _ _ _ _) (Reps.none _ _)) (fun _ hk => hk) trivial Hs.out Hs.out.size (by simp) ?_
          intro v42 wn ho hb hg hat
          obtain ⟨g42, hg42, hge42⟩ := hat
          have HV40 := Aside0.mk (Kd.R_below HV40.out (pw_below_grown (Below.refl _ _) none (Nat.le_refl _) hg (by simp)))
          have HV42 := Aside0.mk ho
          have hG42 := Aside0.mk hg42
          have B8 := Aside0.mk (blk_grown B8.out hg (by simp))
          have B9 := Aside0.mk (blk_grown B9.out hg (by simp))
          refine hK.out _ _ hb (fun hs => ?_)
          clear hK K Hs hb hg ho hg42 hge42
          have Hs := Aside0.mk hs
          clear hs
          refine norm_ (a' := ?_) ?_ ?_
          rotate_left
          · show Act.put _ (some 42) _ = _
            simp only [Act.put, List.setIfInBounds_toArray, List.set_cons_zero, List.set_cons_succ]
            rfl
          refine one_ (i := 6) (N := some 43) #[true, true, true, true, true, true, true, false, false] rfl rfl (by kernel_rfl) (by decide) (fun K hK => ?_)
          obtain ⟨A42, c42, rfl⟩ : ∃ A c, v42 = .slice A 1 c := by
            obtain ⟨A, c, h, _⟩ := Kd.R_reads HV42.out
            exact ⟨A, c, h⟩
          refine Kd.R_append_rows_step k31 (w0 := W5) W5.heap.size (by rfl) (.tmp 40) (.tmp 42) 24 31 (.agg #[(.int .i64 0), (.int .i64 0), (.int .i64 0), (.int .i64 0), (.int .i64 0)]) 40 rfl Try.underlying24 info31b rfl (by decide) (by omega) v40 cs [(⟨h0, h1, h2, h3, h4⟩ : S31)] A42 1 c42 (fun _ => True) (fun _ => False) rfl rfl HV40.out ((Kd.R_reads' HV42.out).2.2) (fun _ _ h => h) (fun _ h => h.elim) (fun _ _ => trivial) Hs.out Hs.out.size (by first | omega | (simp; omega)) ?_
          intro v43 wn ho hb hg hat
          have B8 := Aside0.mk (blk_grown B8.out hg (Kd.R_ne HV40.out B8.out (by decide)))
          have B9 := Aside0.mk (blk_grown B9.out hg (Kd.R_ne HV40.out B9.out (by decide)))
          have HV43 := Aside0.mk ho
          refine hK.out _ _ hb (fun hs => ?_)
          clear hK K Hs hb hg ho hat HV40
          have Hs := Aside0.mk hs
          clear hs
          refine norm_ (a' := ?_) ?_ ?_
          rotate_left
          · show Act.put _ (some 43) _ = _
            simp only [Act.put, List.setIfInBounds_toArray, List.set_cons_zero, List.set_cons_succ]
            rfl
          refine pure_ (i := 7) (N := some 44) (v := ?_) (a' := ?_) #[true, true, true, true, true, true, true, true, false] rfl rfl (by kernel_rfl) (fun _ _ _ h => h) (Or.inl ⟨by rfl, ?_⟩) ?_ ?_
          rotate_left
          · intro w'
            go_simp
            with_reducible rfl
          rotate_left
          · simp only [Act.put, List.setIfInBounds_toArray, List.set_cons_zero, List.set_cons_succ]
            rfl
          refine one_ (i := 8) (N := none) #[true, true, true, true, true, true, true, true, true] rfl rfl (by kernel_rfl) (by decide) (fun K hK => ?_)
          obtain ⟨A43, c43, rfl⟩ : ∃ A c, v43 = .slice A (cs.length + 1) c := by
            obtain ⟨A, c, h, _⟩ := Kd.R_reads HV43.out
            exact ⟨A, c, by rw [h, List.length_append]; rfl⟩
          have gz8 := (blk_cell B8.out 8).trans f8.out
          have z8 := blk_frozen B8.out 8
          refine skip_ (by rfl) rfl (by go_simp; rfl) ?_
          have HV44 := Aside0.mk (Kd.R_set HV43.out B8.out (by decide) 8 (.slice A43 (cs.length + 1) c43))
          have B8' := Aside0.mk (blk_put B8.out 8 (.slice A43 (cs.length + 1) c43) rfl)
          have B9' := Aside0.mk (blk_far B9.out (p := ⟨g8, 8, none⟩) (fun e => HG.out.1 e.symm) (.slice A43 (cs.length + 1) c43))
          refine hK.out _ _ (below_set Hs.out HG.out.2.1) (fun hs => ?_)
          clear hK K Hs gz8 z8
          have Hs := Aside0.mk hs
          clear hs
          refine done_ (by kernel_rfl) ?_
          go_wp2_with fail
          go_meet
          exact ⟨A43, c43, B8', HV44, B9', Hs⟩
        · skip
          refine Kd.R_lit_step k31 (w0 := W5) W5.heap.size 31 (by rfl) (N := 42) rfl (xs := ([(⟨h0, h1, h2, h3, h4⟩ : S31)] : List S31)) (inner := [.int .i64 h0, .int .i64 h1, .int .i64 h2, .int .i64 h3, .int .i64 h4]) (ok := fun _ => True) (okp := fun _ => True) (by first | (go_simp; done) | (go_simp; rfl)) (Reps.c5 (show Kd.M k31 _ _ _ (⟨h0, h1, h2, h3, h4⟩ : S31) [.int .i64 h0, .int .i64 h1, .int .i64 h2, .int .i64 h3, .int .i64 h4] from k31_mkM _ _ _ _) (Reps.none _ _)) (fun _ hk => hk) trivial Hs.out Hs.out.size (by simp) ?_
          intro v42 wn ho hb hg hat
          obtain ⟨g42, hg42, hge42⟩ := hat
          have hne : some g37 ≠ v42.ownBlock := fun e => by
            have h1 := Kd.R_lt HV37.out _ hG37.out
            rw [hg42] at e
            injection e with e
            omega
          have HNE := Aside0.mk hne
          clear hne
          have HV37 := Aside0.mk (Kd.R_below HV37.out (pw_below_grown (Below.refl _ _) none (Nat.le_refl _) hg (by simp)))
          have HV42 := Aside0.mk ho
          have hG42 := Aside0.mk hg42
          have B8 := Aside0.mk (blk_grown B8.out hg (by simp))
          have B9 := Aside0.mk (blk_grown B9.out hg (by simp))
          refine hK.out _ _ hb (fun hs => ?_)
          clear hK K Hs hb hg ho hg42 hge42
          have Hs := Aside0.mk hs
          clear hs
          refine norm_ (a' := ?_) ?_ ?_
          rotate_left
          · show Act.put _ (some 42) _ = _
            simp only [Act.put, List.setIfInBounds_toArray, List.set_cons_zero, List.set_cons_succ]
            rfl
          refine one_ (i := 3) (N := some 40) #[true, true, true, true, true, true, false, false, false] rfl rfl (by kernel_rfl) (by decide) (fun K hK => ?_)
          refine Kd.R_append_rows_step k31 (w0 := W5) W5.heap.size (by rfl) (.tmp 37) (.tmp 39) 24 31 (.agg #[(.int .i64 0), (.int .i64 0), (.int .i64 0), (.int .i64 0), (.int .i64 0)]) 40 rfl Try.underlying24 info31b rfl (by decide) (by omega) v37 [] cs A8 cs.length k8 (fun _ => True) (fun _ => False) rfl rfl HV37.out (Kd.C_below H85.out Hs.out) (fun _ _ h => h) (fun _ h => h.elim) (fun _ _ => trivial) Hs.out Hs.out.size (by first | omega | (simp; omega)) ?_
          intro v40 wn ho hb hg hat
          simp only [List.nil_append] at ho
          have HV42 := Aside0.mk (Kd.R_mono (Kd.R_after (v := v37) (Kd.R_mono (ok' := fun k => True ∧ some k ≠ v37.ownBlock) (Kd.R_far1 HV42.out rfl HNE.out) (fun k hk => ⟨trivial, by
            rw [hG37.out]
            intro e
            injection e with e
            exact hk.2 e⟩)) hg hat) (fun _ _ => trivial))
          have B8 := Aside0.mk (blk_grown B8.out hg (Kd.R_ne HV37.out B8.out (by decide)))
          have B9 := Aside0.mk (blk_grown B9.out hg (Kd.R_ne HV37.out B9.out (by decide)))
          have HV40 := Aside0.mk ho
          refine hK.out _ _ hb (fun hs => ?_)
          clear hK K Hs hb hg ho hat HV37
          have Hs := Aside0.mk hs
          clear hs
          refine norm_ (a' := ?_) ?_ ?_
          rotate_left
          · show Act.put _ (some 40) _ = _
            simp only [Act.put, List.setIfInBounds_toArray, List.set_cons_zero, List.set_cons_succ]
            rfl
          refine one_ (i := 6) (N := some 43) #[true, true, true, true, true, true, true, false, false] rfl rfl (by kernel_rfl) (by decide) (fun K hK => ?_)
          obtain ⟨A42, c42, rfl⟩ : ∃ A c, v42 = .slice A 1 c := by
            obtain ⟨A, c, h, _⟩ := Kd.R_reads HV42.out
            exact ⟨A, c, h⟩
          refine Kd.R_append_rows_step k31 (w0 := W5) W5.heap.size (by rfl) (.tmp 40) (.tmp 42) 24 31 (.agg #[(.int .i64 0), (.int .i64 0), (.int .i64 0), (.int .i64 0), (.int .i64 0)]) 40 rfl Try.underlying24 info31b rfl (by decide) (by omega) v40 cs [(⟨h0, h1, h2, h3, h4⟩ : S31)] A42 1 c42 (fun _ => True) (fun _ => False) rfl rfl HV40.out ((Kd.R_reads' HV42.out).2.2) (fun _ _ h => h) (fun _ h => h.elim) (fun _ _ => trivial) Hs.out Hs.out.size (by first | omega | (simp; omega)) ?_
          intro v43 wn ho hb hg hat
          have B8 := Aside0.mk (blk_grown B8.out hg (Kd.R_ne HV40.out B8.out (by decide)))
          have B9 := Aside0.mk (blk_grown B9.out hg (Kd.R_ne HV40.out B9.out (by decide)))
          have HV43 := Aside0.mk ho
          refine hK.out _ _ hb (fun hs => ?_)
          clear hK K Hs hb hg ho hat HV40
          have Hs := Aside0.mk hs
          clear hs
          refine norm_ (a' := ?_) ?_ ?_
          rotate_left
          · show Act.put _ (some 43) _ = _
            simp only [Act.put, List.setIfInBounds_toArray, List.set_cons_zero, List.set_cons_succ]
            rfl
          refine pure_ (i := 7) (N := some 44) (v := ?_) (a' := ?_) #[true, true, true, true, true, true, true, true, false] rfl rfl (by kernel_rfl) (fun _ _ _ h => h) (Or.inl ⟨by rfl, ?_⟩) ?_ ?_
          rotate_left
          · intro w'
            go_simp
            with_reducible rfl
          rotate_left
          · simp only [Act.put, List.setIfInBounds_toArray, List.set_cons_zero, List.set_cons_succ]
            rfl
          refine one_ (i := 8) (N := none) #[true, true, true, true, true, true, true, true, true] rfl rfl (by kernel_rfl) (by decide) (fun K hK => ?_)
          obtain ⟨A43, c43, rfl⟩ : ∃ A c, v43 = .slice A (cs.length + 1) c := by
            obtain ⟨A, c, h, _⟩ := Kd.R_reads HV43.out
            exact ⟨A, c, by rw [h, List.length_append]; rfl⟩
          have gz8 := (blk_cell B8.out 8).trans f8.out
          have z8 := blk_frozen B8.out 8
          refine skip_ (by rfl) rfl (by go_simp; rfl) ?_
          have HV44 := Aside0.mk (Kd.R_set HV43.out B8.out (by decide) 8 (.slice A43 (cs.length + 1) c43))
          have B8' := Aside0.mk (blk_put B8.out 8 (.slice A43 (cs.length + 1) c43) rfl)
          have B9' := Aside0.mk (blk_far B9.out (p := ⟨g8, 8, none⟩) (fun e => HG.out.1 e.symm) (.slice A43 (cs.length + 1) c43))
          refine hK.out _ _ (below_set Hs.out HG.out.2.1) (fun hs => ?_)
          clear hK K Hs gz8 z8
          have Hs := Aside0.mk hs
          clear hs
          refine done_ (by kernel_rfl) ?_
          go_wp2_with fail
          go_meet
          exact ⟨A43, c43, B8', HV44, B9', Hs⟩
      · skip
        refine Kd.R_lit_step k31 (w0 := W5) W5.heap.size 31 (by rfl) (N := 42) rfl (xs := ([(⟨h0, h1, h2, h3, h4⟩ : S31)] : List S31)) (inner := [.int .i64 h0, .int .i64 h1, .int .i64 h2, .int .i64 h3, .int .i64 h4]) (ok := fun _ => True) (okp := fun _ => True) (by first | (go_simp; done) | (go_simp; rfl)) (Reps.c5 (show Kd.M k31 _ _ _ (⟨h0, h1, h2, h3, h4⟩ : S31) [.int .i64 h0, .int .i64 h1, .int .i64 h2, .int .i64 h3, .int .i64 h4] from k31_mkM _ _ _ _) (Reps.none _ _)) (fun _ hk => hk) trivial Hs.out Hs.out.size (by simp) ?_
        intro v42 wn ho hb hg hat
        obtain ⟨g42, hg42, hge42⟩ := hat
        have HV42 := Aside0.mk ho
        have hG42 := Aside0.mk hg42
        have B8 := Aside0.mk (blk_grown B8.out hg (by simp))
        have B9 := Aside0.mk (blk_grown B9.out hg (by simp))
        refine hK.out _ _ hb (fun hs => ?_)
        clear hK K Hs hb hg ho hg42 hge42
        have Hs := Aside0.mk hs
        clear hs
        refine norm_ (a' := ?_) ?_ ?_
        rotate_left
        · show Act.put _ (some 42) _ = _
          simp only [Act.put, List.setIfInBounds_toArray, List.set_cons_zero, List.set_cons_succ]
          rfl
        refine one_ (i := 0) (N := some 37) #[true, true, true, false, true, true, false, false, false] rfl rfl (by kernel_rfl) (by decide) (fun K hK => ?_)
        refine Kd.R_lit_step k31 (w0 := W5) W5.heap.size 31 (by rfl) (N := 37) rfl (xs := ([] : List S31)) (inner := []) (ok := fun _ => True) (okp := fun _ => True) (by first | (go_simp; done) | (go_simp; rfl)) (Reps.none _ _) (fun _ hk => hk) trivial Hs.out Hs.out.size (by simp) ?_
        intro v37 wn ho hb hg hat
        obtain ⟨g37, hg37, hge37⟩ := hat
        have hne : some g37 ≠ v42.ownBlock := fun e => by
          have h1 := Kd.R_lt HV42.out _ e.symm
          omega
        have HNE := Aside0.mk hne
        clear hne
        have HV42 := Aside0.mk (Kd.R_below HV42.out (pw_below_grown (Below.refl _ _) none (Nat.le_refl _) hg (by simp)))
        have HV37 := Aside0.mk ho
        have hG37 := Aside0.mk hg37
        have B8 := Aside0.mk (blk_grown B8.out hg (by simp))
        have B9 := Aside0.mk (blk_grown B9.out hg (by simp))
        refine hK.out _ _ hb (fun hs => ?_)
        clear hK K Hs hb hg ho hg37 hge37
        have Hs := Aside0.mk hs
        clear hs
        refine norm_ (a' := ?_) ?_ ?_
        rotate_left
        · show Act.put _ (some 37) _ = _
          simp only [Act.put, List.setIfInBounds_toArray, List.set_cons_zero, List.set_cons_succ]
          rfl
        refine one_ (i := 3) (N := some 40) #[true, true, true, true, true, true, false, false, false] rfl rfl (by kernel_rfl) (by decide) (fun K hK => ?_)
        refine Kd.R_append_rows_step k31 (w0 := W5) W5.heap.size (by rfl) (.tmp 37) (.tmp 39) 24 31 (.agg #[(.int .i64 0), (.int .i64 0), (.int .i64 0), (.int .i64 0), (.int .i64 0)]) 40 rfl Try.underlying24 info31b rfl (by decide) (by omega) v37 [] cs A8 cs.length k8 (fun _ => True) (fun _ => False) rfl rfl HV37.out (Kd.C_below H85.out Hs.out) (fun _ _ h => h) (fun _ h => h.elim) (fun _ _ => trivial) Hs.out Hs.out.size (by first | omega | (simp; omega)) ?_
        intro v40 wn ho hb hg hat
        simp only [List.nil_append] at ho
        have HV42 := Aside0.mk (Kd.R_mono (Kd.R_after (v := v37) (Kd.R_mono (ok' := fun k => True ∧ some k ≠ v37.ownBlock) (Kd.R_far1 HV42.out rfl HNE.out) (fun k hk => ⟨trivial, by
          rw [hG37.out]
          intro e
          injection e with e
          exact hk.2 e⟩)) hg hat) (fun _ _ => trivial))
        have B8 := Aside0.mk (blk_grown B8.out hg (Kd.R_ne HV37.out B8.out (by decide)))
        have B9 := Aside0.mk (blk_grown B9.out hg (Kd.R_ne HV37.out B9.out (by decide)))
        have HV40 := Aside0.mk ho
        refine hK.out _ _ hb (fun hs => ?_)
        clear hK K Hs hb hg ho hat HV37
        have Hs := Aside0.mk hs
        clear hs
        refine norm_ (a' := ?_) ?_ ?_
        rotate_left
        · show Act.put _ (some 40) _ = _
          simp only [Act.put, List.setIfInBounds_toArray, List.set_cons_zero, List.set_cons_succ]
          rfl
        refine one_ (i := 6) (N := some 43) #[true, true, true, true, true, true, true, false, false] rfl rfl (by kernel_rfl) (by decide) (fun K hK => ?_)
        obtain ⟨A42, c42, rfl⟩ : ∃ A c, v42 = .slice A 1 c := by
          obtain ⟨A, c, h, _⟩ := Kd.R_reads HV42.out
          exact ⟨A, c, h⟩
        refine Kd.R_append_rows_step k31 (w0 := W5) W5.heap.size (by rfl) (.tmp 40) (.tmp 42) 24 31 (.agg #[(.int .i64 0), (.int .i64 0), (.int .i64 0), (.int .i64 0), (.int .i64 0)]) 40 rfl Try.underlying24 info31b rfl (by decide) (by omega) v40 cs [(⟨h0, h1, h2, h3, h4⟩ : S31)] A42 1 c42 (fun _ => True) (fun _ => False) rfl rfl HV40.out ((Kd.R_reads' HV42.out).2.2) (fun _ _ h => h) (fun _ h => h.elim) (fun _ _ => trivial) Hs.out Hs.out.size (by first | omega | (simp; omega)) ?_
        intro v43 wn ho hb hg hat
        have B8 := Aside0.mk (blk_grown B8.out hg (Kd.R_ne HV40.out B8.out (by decide)))
        have B9 := Aside0.mk (blk_grown B9.out hg (Kd.R_ne HV40.out B9.out (by decide)))
        have HV43 := Aside0.mk ho
        refine hK.out _ _ hb (fun hs => ?_)
        clear hK K Hs hb hg ho hat HV40
        have Hs := Aside0.mk hs
        clear hs
        refine norm_ (a' := ?_) ?_ ?_
        rotate_left
        · show Act.put _ (some 43) _ = _
          simp only [Act.put, List.setIfInBounds_toArray, List.set_cons_zero, List.set_cons_succ]
          rfl
        refine pure_ (i := 7) (N := some 44) (v := ?_) (a' := ?_) #[true, true, true, true, true, true, true, true, false] rfl rfl (by kernel_rfl) (fun _ _ _ h => h) (Or.inl ⟨by rfl, ?_⟩) ?_ ?_
        rotate_left
        · intro w'
          go_simp
          with_reducible rfl
        rotate_left
        · simp only [Act.put, List.setIfInBounds_toArray, List.set_cons_zero, List.set_cons_succ]
          rfl
        refine one_ (i := 8) (N := none) #[true, true, true, true, true, true, true, true, true] rfl rfl (by kernel_rfl) (by decide) (fun K hK => ?_)
        obtain ⟨A43, c43, rfl⟩ : ∃ A c, v43 = .slice A (cs.length + 1) c := by
          obtain ⟨A, c, h, _⟩ := Kd.R_reads HV43.out
          exact ⟨A, c, by rw [h, List.length_append]; rfl⟩
        have gz8 := (blk_cell B8.out 8).trans f8.out
        have z8 := blk_frozen B8.out 8
        refine skip_ (by rfl) rfl (by go_simp; rfl) ?_
        have HV44 := Aside0.mk (Kd.R_set HV43.out B8.out (by decide) 8 (.slice A43 (cs.length + 1) c43))
        have B8' := Aside0.mk (blk_put B8.out 8 (.slice A43 (cs.length + 1) c43) rfl)
        have B9' := Aside0.mk (blk_far B9.out (p := ⟨g8, 8, none⟩) (fun e => HG.out.1 e.symm) (.slice A43 (cs.length + 1) c43))
        refine hK.out _ _ (below_set Hs.out HG.out.2.1) (fun hs => ?_)
        clear hK K Hs gz8 z8
        have Hs := Aside0.mk hs
        clear hs
        refine done_ (by kernel_rfl) ?_
        go_wp2_with fail
        go_meet
        exact ⟨A43, c43, B8', HV44, B9', Hs⟩
    case rest =>
      obtain ⟨A43, c43, B8, HV43, B9, HB7⟩ := hcut
      have gz9 := (blk_cell B9.out 8).trans f8.out
      have z9 := blk_frozen B9.out 8
      go_upto_region 10 with fail
      have B8d := Aside0.mk (blk_far B8.out (p := ⟨g9, 8, none⟩) HG.out.1 (.slice none 0 0))
      have B9d := Aside0.mk (blk_put B9.out 8 (.slice none 0 0) rfl)
      have HV43d := Aside0.mk (Kd.R_set HV43.out B9.out (by decide) 8 (.slice none 0 0))
      have HBd := Aside0.mk (below_set (j := 8) (v := .slice none 0 0) HB7.out HG.out.2.2)
      clear B8 B9 HV43 HB7 gz9 z9
      generalize wc.setCell ⟨g9, 8, none⟩ (.slice none 0 0) = Wd at *
      have HV43e := Aside0.mk (Kd.R_mono (ok' := fun k => k < Wd.heap.size) (Kd.R_bound HV43d.out) (fun k hk => hk.2.2.1))
      clear HV43d HB6
      have cc8 := ((HBd.out.cell (p := ⟨w.heap.size, 8, none⟩) (blk_lt BC5.out)).trans (blk_cell BC5.out 8)).trans f8.out
      go_wp2_with fail
      clear cc8
      go_loopw [10] (fun u wr => ∃ (m : Nat) (vb : Value), m ≤ cs.length ∧ u = .int .i64 ((m : Int) - 1) ∧ Aside0 (wr.heap[g9]? = some (.cells (CF.setIfInBounds 8 vb) 26 (0, 0))) ∧ Aside0 (Kd.R k31 31 wr Wd.heap.size (fun _ => True) vb (cs.drop m).reverse) ∧ Aside0 (wr.heap[g8]? = some (.cells (CF.setIfInBounds 8 (.slice A43 (cs.length + 1) c43)) 26 (0, 0))) ∧ Aside0 (Kd.R k31 31 wr W5.heap.size (fun k => k < Wd.heap.size) (.slice A43 (cs.length + 1) c43) (cs ++ [(⟨h0, h1, h2, h3, h4⟩ : S31)])) ∧ Aside0 (Below W5.heap.size W5 wr) ∧ Aside0 (Wd.heap.size ≤ wr.heap.size)) (fun u _ => (intOf u + 1).toNat)
      case atStart => exact ⟨cs.length, .slice none 0 0, Nat.le_refl _, rfl, B9d, ⟨by rw [List.drop_length]; exact Kd.R_nil _ _ _ _ _⟩, B8d, HV43e, HBd, ⟨Nat.le_refl _⟩⟩
      case round =>
        clear B8d B9d HV43e
        obtain ⟨m, vb, hm, rfl, B9, HVb, B8, HV43, HB, HSZ⟩ := hrel
        cases m with
        | succ m =>
          have em : (((m + 1 : Nat) : Int) - 1) = (m : Int) := by omega
          rw [em]
          clear em
          have hmlt : m < cs.length := by omega
          obtain ⟨ad, hA, hx0, hx1, hx2, hx3, hx4⟩ := at_T31 (Kd.C_below H85.out HB.out) (m : Int) (by omega) (by omega)
          rw [Int.toNat_natCast] at hx0 hx1 hx2 hx3 hx4
          subst hA
          obtain ⟨X, hX⟩ : ∃ X, rd_T31 cs (m : Int) = X := ⟨_, rfl⟩
          rw [hX] at hx0 hx1 hx2 hx3 hx4
          have HX := Aside0.mk hX
          have HX0 := Aside0.mk hx0
          have HX1 := Aside0.mk hx1
          have HX2 := Aside0.mk hx2
          have HX3 := Aside0.mk hx3
          have HX4 := Aside0.mk hx4
          have i0 : (0 : Int) ≤ (m : Int) := by omega
          have i1 : (m : Int) < (cs.length : Int) := by omega
          obtain ⟨Ab, cb, rfl⟩ : ∃ A c, vb = .slice A (cs.length - (m + 1)) c := by
            obtain ⟨A, c, h, _⟩ := Kd.R_reads HVb.out
            exact ⟨A, c, by rw [h, List.length_reverse, List.length_drop]⟩
          clear hX hx0 hx1 hx2 hx3 hx4
          go_wp2_with fail
          have Hs0 := Aside0.mk (below_drew1 (Below.refl wr.heap.size wr))
          refine start_ (n := 11) (S := fun w' => Below wr.heap.size wr w') (ds := [8, 10]) #[false, false, false, false, false, false, false, false, false, false, false] (by kernel_rfl) rfl rfl Hs0.out (fun hs => ?_)
          have Hs := Aside0.mk hs
          clear hs Hs0
          refine pure_ (i := 0) (N := some 54) (v := ?_) (a' := ?_) #[true, false, false, false, false, false, false, false, false, false, false] rfl rfl (by kernel_rfl) (fun _ _ _ h => h) (Or.inl ⟨by rfl, ?_⟩) ?_ ?_
          rotate_left
          · intro w'
            go_simp
            with_reducible rfl
          rotate_left
          · simp only [Act.put, List.setIfInBounds_toArray, List.set_cons_zero, List.set_cons_succ]
            rfl
          refine take_ (i := 1) (N := some 55) (v := .slice Ab (cs.length - (m + 1)) cb) #[true, true, false, false, false, false, false, false, false, false, false] rfl rfl (by kernel_rfl) (fun _ _ _ h => h) (Or.inl ⟨by rfl, ?_⟩) ?_ (a' := ?_) ?_ ?_
          · intro w' hS
            have hx : w'.cell? ⟨g9, 8, none⟩ = some (.slice Ab (cs.length - (m + 1)) cb) := ((hS.cell (p := ⟨g9, 8, none⟩) (blk_lt B9.out)).trans (blk_cell B9.out 8)).trans (by rw [HCF.out]; rfl)
            go_simp
          · exact Hs.out
          rotate_left
          · simp only [Act.put, List.setIfInBounds_toArray, List.set_cons_zero, List.set_cons_succ]
            rfl
          refine pure_ (i := 2) (N := some 56) (v := ?_) (a' := ?_) #[true, true, true, false, false, false, false, false, false, false, false] rfl rfl (by kernel_rfl) (fun _ _ _ h => h) (Or.inl ⟨by rfl, ?_⟩) ?_ ?_
          rotate_left
          · intro w'
            go_simp
            with_reducible rfl
          rotate_left
          · simp only [Act.put, List.setIfInBounds_toArray, List.set_cons_zero, List.set_cons_succ]
            rfl
          refine take_ (i := 3) (N := some 57) (v := .slice (some ad) cs.length k8) #[true, true, true, true, false, false, false, false, false, false, false] rfl rfl (by kernel_rfl) (fun _ _ _ h => h) (Or.inl ⟨by rfl, ?_⟩) ?_ (a' := ?_) ?_ ?_
          · intro w' hS
            have hx : w'.cell? ⟨w.heap.size, 8, none⟩ = some (.slice (some ad) cs.length k8) := ((hS.cell (p := ⟨w.heap.size, 8, none⟩) (Nat.lt_of_lt_of_le (blk_lt BC5.out) HB.out.size)).trans ((HB.out.cell (p := ⟨w.heap.size, 8, none⟩) (blk_lt BC5.out)).trans (blk_cell BC5.out 8))).trans f8.out
            go_simp
          · exact Hs.out
          rotate_left
          · simp only [Act.put, List.setIfInBounds_toArray, List.set_cons_zero, List.set_cons_succ]
            rfl
          refine pure_ (i := 4) (N := some 58) (v := ?_) (a' := ?_) #[true, true, true, true, true, false, false, false, false, false, false] rfl rfl (by kernel_rfl) (fun _ _ _ h => h) (Or.inl ⟨by rfl, ?_⟩) ?_ ?_
          rotate_left
          · intro w'
            go_simp
            with_reducible rfl
          rotate_left
          · simp only [Act.put, List.setIfInBounds_toArray, List.set_cons_zero, List.set_cons_succ]
            rfl
          refine pure_ (i := 5) (N := some 59) (v := ?_) (a' := ?_) #[true, true, true, true, true, true, false, false, false, false, false] rfl rfl (by kernel_rfl) (fun _ _ _ h => h) (Or.inl ⟨by rfl, ?_⟩) ?_ ?_
          rotate_left
          · intro w'
            go_simp
            with_reducible rfl
          rotate_left
          · simp only [Act.put, List.setIfInBounds_toArray, List.set_cons_zero, List.set_cons_succ]
            rfl
          refine take_ (i := 6) (N := some 60) (v := .agg #[.int .i64 X.f0, .int .i64 X.f1, .int .i64 X.f2, .int .i64 X.f3, .int .i64 X.f4]) #[true, true, true, true, true, true, true, false, false, false, false] rfl rfl (by kernel_rfl) (fun _ _ _ h => h) (Or.inl ⟨by rfl, ?_⟩) ?_ (a' := ?_) ?_ ?_
          · intro w' hS
            have hx0 := (hS.cell (World.block_lt_of_cell? wr _ HX0.out)).trans HX0.out
            have hx1 := (hS.cell (World.block_lt_of_cell? wr _ HX1.out)).trans HX1.out
            have hx2 := (hS.cell (World.block_lt_of_cell? wr _ HX2.out)).trans HX2.out
            have hx3 := (hS.cell (World.block_lt_of_cell? wr _ HX3.out)).trans HX3.out
            have hx4 := (hS.cell (World.block_lt_of_cell? wr _ HX4.out)).trans HX4.out
            go_simp
          · exact Hs.out
          rotate_left
          · simp only [Act.put, List.setIfInBounds_toArray, List.set_cons_zero, List.set_cons_succ]
            rfl
          refine one_ (i := 7) (N := some 61) #[true, true, true, true, true, true, true, true, false, false, false] rfl rfl (by kernel_rfl) (by decide) (fun K hK => ?_)
          refine Kd.R_lit_step k31 (w0 := wr) wr.heap.size 31 (by rfl) (N := 61) rfl (xs := ([X] : List S31)) (inner := [.int .i64 X.f0, .int .i64 X.f1, .int .i64 X.f2, .int .i64 X.f3, .int .i64 X.f4]) (ok := fun _ => True) (okp := fun _ => True) (by first | (go_simp; done) | (go_simp; rfl)) (Reps.c5 (show Kd.M k31 _ _ _ X [.int .i64 X.f0, .int .i64 X.f1, .int .i64 X.f2, .int .i64 X.f3, .int .i64 X.f4] from k31_mkM _ _ _ _) (Reps.none _ _)) (fun _ hk => hk) trivial Hs.out Hs.out.size (by simp) ?_
          intro v61 wn ho hb hg hat
          obtain ⟨A61, c61, rfl⟩ : ∃ A c, v61 = .slice A 1 c := by
            obtain ⟨A, c, h, _⟩ := Kd.R_reads ho
            exact ⟨A, c, h⟩
          have HV61 := Aside0.mk ho
          have B9 := Aside0.mk (blk_below B9.out hb)
          have B8 := Aside0.mk (blk_below B8.out hb)
          have HV43 := Aside0.mk (Kd.R_below HV43.out hb)
          have HVb := Aside0.mk (Kd.R_below HVb.out hb)
          have HB := Aside0.mk (below_step HB.out hb)
          have HSZ := Aside0.mk (Nat.le_trans HSZ.out hb.size)
          refine hK.out _ _ hb (fun hs => ?_)
          clear hK K Hs hb hg ho hat HX0 HX1 HX2 HX3 HX4
          refine norm_ (a' := ?_) ?_ ?_
          rotate_left
          · show Act.put _ (some 61) _ = _
            simp only [Act.put, List.setIfInBounds_toArray, List.set_cons_zero, List.set_cons_succ]
            rfl
          refine last_ (i := 8) (N := some 62) #[true, true, true, true, true, true, true, true, true, false, false] rfl rfl (by kernel_rfl) (by decide) (fun K hK => ?_)
          refine Kd.R_append_rows_step k31 (w0 := wn) Wd.heap.size (by rfl) (.tmp 55) (.tmp 61) 24 31 (.agg #[(.int .i64 0), (.int .i64 0), (.int .i64 0), (.int .i64 0), (.int .i64 0)]) 40 rfl Try.underlying24 info31b rfl (by decide) (by omega) _ _ [X] A61 1 c61 (fun _ => True) (fun _ => False) rfl rfl HVb.out (Kd.R_reads' HV61.out).2.2 (fun _ _ h => h) (fun _ h => h.elim) (fun _ _ => trivial) (Below.refl _ _) HSZ.out (by simp; omega) ?_
          intro v62 wm ho hb hg hat
          have hbase := Kd.R_base HVb.out
          have B9 := Aside0.mk (blk_grown B9.out hg (Kd.R_ne HVb.out B9.out (by decide)))
          have B8 := Aside0.mk (blk_grown B8.out hg (Kd.R_ne HVb.out B8.out (by decide)))
          have HV43 := Aside0.mk (Kd.R_move HV43.out (fun k hk => hg.block k (Nat.lt_of_lt_of_le hk HSZ.out) (fun e => by
            have := hbase k e.symm
            omega)))
          have HB := Aside0.mk (pw_below_grown HB.out _ HB.out.size hg (fun k e => Nat.le_trans HBd.out.size (hbase k e)))
          have HSZ := Aside0.mk (Nat.le_trans HSZ.out hg.size)
          obtain ⟨A62, c62, rfl⟩ : ∃ A c, v62 = .slice A (cs.length - m) c := by
            obtain ⟨A, c, h, _⟩ := Kd.R_reads ho
            refine ⟨A, c, h.trans ?_⟩
            congr 1
            rw [List.length_append, List.length_reverse, List.length_drop]
            show cs.length - (m + 1) + 1 = cs.length - m
            omega
          have HV62 : Aside0 (Kd.R k31 31 wm Wd.heap.size (fun _ => True) (.slice A62 (cs.length - m) c62) (cs.drop m).reverse) := ⟨by
            rw [back_step cs hmlt, HX.out]
            exact ho⟩
          refine hK.out _ _ ?_
          clear hK K hb hg ho hat HVb HV61 hbase hs
          refine norm_ (a' := ?_) ?_ ?_
          rotate_left
          · show Act.put _ (some 62) _ = _
            simp only [Act.put, List.setIfInBounds_toArray, List.set_cons_zero, List.set_cons_succ]
            rfl
          refine pure_ (i := 9) (N := some 63) (v := ?_) (a' := ?_) #[true, true, true, true, true, true, true, true, true, true, false] rfl rfl (by kernel_rfl) (fun _ _ _ h => h) (Or.inl ⟨by rfl, ?_⟩) ?_ ?_
          rotate_left
          · intro w'
            go_simp
            with_reducible rfl
          rotate_left
          · simp only [Act.put, List.setIfInBounds_toArray, List.set_cons_zero, List.set_cons_succ]
            rfl
          have gz9 : wm.cell? ⟨g9, 8, none⟩ = some (.slice Ab (cs.length - (m + 1)) cb) := (blk_cell B9.out 8).trans (by rw [HCF.out]; rfl)
          have z9 := blk_frozen B9.out 8
          refine last_ (i := 10) (N := none) #[true, true, true, true, true, true, true, true, true, true, true] rfl rfl (by kernel_rfl) (by decide) (fun K hK => ?_)
          refine skip_ (by rfl) rfl (by go_simp; rfl) ?_
          have HV62 := Aside0.mk (Kd.R_set HV62.out B9.out (by decide) 8 (.slice A62 (cs.length - m) c62))
          have HV43 := Aside0.mk (Kd.R_set HV43.out B9.out (by decide) 8 (.slice A62 (cs.length - m) c62))
          have B8 := Aside0.mk (blk_far B8.out (p := ⟨g9, 8, none⟩) HG.out.1 (.slice A62 (cs.length - m) c62))
          have B9 := Aside0.mk (blk_put B9.out 8 (.slice A62 (cs.length - m) c62) (by rw [HCF.out]; rfl : (CF.setIfInBounds 8 (.slice Ab (cs.length - (m + 1)) cb)).setIfInBounds 8 (.slice A62 (cs.length - m) c62) = CF.setIfInBounds 8 (.slice A62 (cs.length - m) c62)))
          have HB := Aside0.mk (below_set (j := 8) (v := .slice A62 (cs.length - m) c62) HB.out HG.out.2.2)
          refine hK.out _ _ ?_
          clear hK K gz9 z9
          refine done_ (by kernel_rfl) ?_
          go_wp2_with fail
          go_roundw
          case rel => exact ⟨m, _, by omega, rfl, B9, HV62, B8, HV43, HB, ⟨by simp; exact HSZ.out⟩⟩
          case measure =>
            simp [intOf]
        | zero =>
          have em : (((0 : Nat) : Int) - 1) = -1 := rfl
          rw [em]
          clear em
          go_wp2_with fail
          obtain ⟨Ab, cb, rfl⟩ : ∃ A c, vb = .slice A cs.length c := by
            obtain ⟨A, c, h, _⟩ := Kd.R_reads HVb.out
            exact ⟨A, c, by rw [h, List.length_reverse, List.drop_zero]⟩
          have HCb : Aside0 (Kd.C k31 wr Ab cs.reverse.length cs.reverse) := ⟨(Kd.R_reads' HVb.out).2.2⟩
          have HCm := Aside0.mk (Kd.R_reads' HV43.out).2.2
          have HCo := Aside0.mk (Kd.R_reads' (Kd.R_below HV5.out HB.out)).2.2
          have BO := Aside0.mk (blk_below BO5.out HB.out)
          clear HVb HV43 HSZ hm
          have Hs0 := Aside0.mk (below_drew1 (Below.refl wr.heap.size wr))
          refine start_ (n := 12) (S := fun w' => Below wr.heap.size wr w') (ds := []) #[false, false, false, false, false, false, false, false, false, false, false, false] (by kernel_rfl) rfl rfl Hs0.out (fun hs => ?_)
          have Hs := Aside0.mk hs
          clear hs Hs0
          refine take_ (i := 0) (N := some 64) (v := .agg #[.int .i64 x0, .int .i64 x1, .int .i64 x2, .int .i64 x3, .int .i64 x4, .int .i64 x5, .slice A6 n6 k6, .slice A7 n7 k7, .slice A2 cs.length k2]) #[true, false, false, false, false, false, false, false, false, false, false, false] rfl rfl (by kernel_rfl) (fun _ _ _ h => h) (Or.inl ⟨by rfl, ?_⟩) ?_ (a' := ?_) ?_ ?_
          · intro w' hS
            have hx0 : w'.cell? ⟨go, 0, none⟩ = some (.int .i64 x0) := ((hS.cell (p := ⟨go, 0, none⟩) (blk_lt BO.out)).trans (blk_cell BO.out 0)).trans (by rw [HCF.out]; rfl)
            have hx1 : w'.cell? ⟨go, 1, none⟩ = some (.int .i64 x1) := ((hS.cell (p := ⟨go, 1, none⟩) (blk_lt BO.out)).trans (blk_cell BO.out 1)).trans (by rw [HCF.out]; rfl)
            have hx2 : w'.cell? ⟨go, 2, none⟩ = some (.int .i64 x2) := ((hS.cell (p := ⟨go, 2, none⟩) (blk_lt BO.out)).trans (blk_cell BO.out 2)).trans (by rw [HCF.out]; rfl)
            have hx3 : w'.cell? ⟨go, 3, none⟩ = some (.int .i64 x3) := ((hS.cell (p := ⟨go, 3, none⟩) (blk_lt BO.out)).trans (blk_cell BO.out 3)).trans (by rw [HCF.out]; rfl)
            have hx4 : w'.cell? ⟨go, 4, none⟩ = some (.int .i64 x4) := ((hS.cell (p := ⟨go, 4, none⟩) (blk_lt BO.out)).trans (blk_cell BO.out 4)).trans (by rw [HCF.out]; rfl)
            have hx5 : w'.cell? ⟨go, 5, none⟩ = some (.int .i64 x5) := ((hS.cell (p := ⟨go, 5, none⟩) (blk_lt BO.out)).trans (blk_cell BO.out 5)).trans (by rw [HCF.out]; rfl)
            have hx6 : w'.cell? ⟨go, 6, none⟩ = some (.slice A6 n6 k6) := ((hS.cell (p := ⟨go, 6, none⟩) (blk_lt BO.out)).trans (blk_cell BO.out 6)).trans (by rw [HCF.out]; rfl)
            have hx7 : w'.cell? ⟨go, 7, none⟩ = some (.slice A7 n7 k7) := ((hS.cell (p := ⟨go, 7, none⟩) (blk_lt BO.out)).trans (blk_cell BO.out 7)).trans (by rw [HCF.out]; rfl)
            have hx8 : w'.cell? ⟨go, 8, none⟩ = some (.slice A2 cs.length k2) := ((hS.cell (p := ⟨go, 8, none⟩) (blk_lt BO.out)).trans (blk_cell BO.out 8)).trans (by rw [HCF.out]; rfl)
            go_simp
          · exact Hs.out
          rotate_left
          · simp only [Act.put, List.setIfInBounds_toArray, List.set_cons_zero, List.set_cons_succ]
            rfl
          refine pure_ (i := 1) (N := some 65) (v := ?_) (a' := ?_) #[true, true, false, false, false, false, false, false, false, false, false, false] rfl rfl (by kernel_rfl) (fun _ _ _ h => h) (Or.inl ⟨by rfl, ?_⟩) ?_ ?_
          rotate_left
          · intro w'
            go_simp
            with_reducible rfl
          rotate_left
          · simp only [Act.put, List.setIfInBounds_toArray, List.set_cons_zero, List.set_cons_succ]
            rfl
          refine take_ (i := 3) (N := some 67) (v := .agg #[.int .i64 x0, .int .i64 x1, .int .i64 x2, .int .i64 x3, .int .i64 x4, .int .i64 x5, .slice A6 n6 k6, .slice A7 n7 k7, .slice A43 (cs.length + 1) c43]) #[true, true, false, true, false, false, false, false, false, false, false, false] rfl rfl (by kernel_rfl) (fun _ _ _ h => h) (Or.inl ⟨by rfl, ?_⟩) ?_ (a' := ?_) ?_ ?_
          · intro w' hS
            have hx0 : w'.cell? ⟨g8, 0, none⟩ = some (.int .i64 x0) := ((hS.cell (p := ⟨g8, 0, none⟩) (blk_lt B8.out)).trans (blk_cell B8.out 0)).trans (by rw [HCF.out]; rfl)
            have hx1 : w'.cell? ⟨g8, 1, none⟩ = some (.int .i64 x1) := ((hS.cell (p := ⟨g8, 1, none⟩) (blk_lt B8.out)).trans (blk_cell B8.out 1)).trans (by rw [HCF.out]; rfl)
            have hx2 : w'.cell? ⟨g8, 2, none⟩ = some (.int .i64 x2) := ((hS.cell (p := ⟨g8, 2, none⟩) (blk_lt B8.out)).trans (blk_cell B8.out 2)).trans (by rw [HCF.out]; rfl)
            have hx3 : w'.cell? ⟨g8, 3, none⟩ = some (.int .i64 x3) := ((hS.cell (p := ⟨g8, 3, none⟩) (blk_lt B8.out)).trans (blk_cell B8.out 3)).trans (by rw [HCF.out]; rfl)
            have hx4 : w'.cell? ⟨g8, 4, none⟩ = some (.int .i64 x4) := ((hS.cell (p := ⟨g8, 4, none⟩) (blk_lt B8.out)).trans (blk_cell B8.out 4)).trans (by rw [HCF.out]; rfl)
            have hx5 : w'.cell? ⟨g8, 5, none⟩ = some (.int .i64 x5) := ((hS.cell (p := ⟨g8, 5, none⟩) (blk_lt B8.out)).trans (blk_cell B8.out 5)).trans (by rw [HCF.out]; rfl)
            have hx6 : w'.cell? ⟨g8, 6, none⟩ = some (.slice A6 n6 k6) := ((hS.cell (p := ⟨g8, 6, none⟩) (blk_lt B8.out)).trans (blk_cell B8.out 6)).trans (by rw [HCF.out]; rfl)
            have hx7 : w'.cell? ⟨g8, 7, none⟩ = some (.slice A7 n7 k7) := ((hS.cell (p := ⟨g8, 7, none⟩) (blk_lt B8.out)).trans (blk_cell B8.out 7)).trans (by rw [HCF.out]; rfl)
            have hx8 : w'.cell? ⟨g8, 8, none⟩ = some (.slice A43 (cs.length + 1) c43) := ((hS.cell (p := ⟨g8, 8, none⟩) (blk_lt B8.out)).trans (blk_cell B8.out 8)).trans (by rw [HCF.out]; rfl)
            go_simp
          · exact Hs.out
          rotate_left
          · simp only [Act.put, List.setIfInBounds_toArray, List.set_cons_zero, List.set_cons_succ]
            rfl
          refine pure_ (i := 4) (N := some 68) (v := ?_) (a' := ?_) #[true, true, false, true, true, false, false, false, false, false, false, false] rfl rfl (by kernel_rfl) (fun _ _ _ h => h) (Or.inl ⟨by rfl, ?_⟩) ?_ ?_
          rotate_left
          · intro w'
            go_simp
            with_reducible rfl
          rotate_left
          · simp only [Act.put, List.setIfInBounds_toArray, List.set_cons_zero, List.set_cons_succ]
            rfl
          refine take_ (i := 6) (N := some 70) (v := .agg #[.int .i64 x0, .int .i64 x1, .int .i64 x2, .int .i64 x3, .int .i64 x4, .int .i64 x5, .slice A6 n6 k6, .slice A7 n7 k7, .slice Ab cs.length cb]) #[true, true, false, true, true, false, true, false, false, false, false, false] rfl rfl (by kernel_rfl) (fun _ _ _ h => h) (Or.inl ⟨by rfl, ?_⟩) ?_ (a' := ?_) ?_ ?_
          · intro w' hS
            have hx0 : w'.cell? ⟨g9, 0, none⟩ = some (.int .i64 x0) := ((hS.cell (p := ⟨g9, 0, none⟩) (blk_lt B9.out)).trans (blk_cell B9.out 0)).trans (by rw [HCF.out]; rfl)
            have hx1 : w'.cell? ⟨g9, 1, none⟩ = some (.int .i64 x1) := ((hS.cell (p := ⟨g9, 1, none⟩) (blk_lt B9.out)).trans (blk_cell B9.out 1)).trans (by rw [HCF.out]; rfl)
            have hx2 : w'.cell? ⟨g9, 2, none⟩ = some (.int .i64 x2) := ((hS.cell (p := ⟨g9, 2, none⟩) (blk_lt B9.out)).trans (blk_cell B9.out 2)).trans (by rw [HCF.out]; rfl)
            have hx3 : w'.cell? ⟨g9, 3, none⟩ = some (.int .i64 x3) := ((hS.cell (p := ⟨g9, 3, none⟩) (blk_lt B9.out)).trans (blk_cell B9.out 3)).trans (by rw [HCF.out]; rfl)
            have hx4 : w'.cell? ⟨g9, 4, none⟩ = some (.int .i64 x4) := ((hS.cell (p := ⟨g9, 4, none⟩) (blk_lt B9.out)).trans (blk_cell B9.out 4)).trans (by rw [HCF.out]; rfl)
            have hx5 : w'.cell? ⟨g9, 5, none⟩ = some (.int .i64 x5) := ((hS.cell (p := ⟨g9, 5, none⟩) (blk_lt B9.out)).trans (blk_cell B9.out 5)).trans (by rw [HCF.out]; rfl)
            have hx6 : w'.cell? ⟨g9, 6, none⟩ = some (.slice A6 n6 k6) := ((hS.cell (p := ⟨g9, 6, none⟩) (blk_lt B9.out)).trans (blk_cell B9.out 6)).trans (by rw [HCF.out]; rfl)
            have hx7 : w'.cell? ⟨g9, 7, none⟩ = some (.slice A7 n7 k7) := ((hS.cell (p := ⟨g9, 7, none⟩) (blk_lt B9.out)).trans (blk_cell B9.out 7)).trans (by rw [HCF.out]; rfl)
            have hx8 : w'.cell? ⟨g9, 8, none⟩ = some (.slice Ab cs.length cb) := ((hS.cell (p := ⟨g9, 8, none⟩) (blk_lt B9.out)).trans (blk_cell B9.out 8)).trans (by rw [HCF.out]; rfl)
            go_simp
          · exact Hs.out
          rotate_left
          · simp only [Act.put, List.setIfInBounds_toArray, List.set_cons_zero, List.set_cons_succ]
            rfl
          refine pure_ (i := 7) (N := some 71) (v := ?_) (a' := ?_) #[true, true, false, true, true, false, true, true, false, false, false, false] rfl rfl (by kernel_rfl) (fun _ _ _ h => h) (Or.inl ⟨by rfl, ?_⟩) ?_ ?_
          rotate_left
          · intro w'
            go_simp
            with_reducible rfl
          rotate_left
          · simp only [Act.put, List.setIfInBounds_toArray, List.set_cons_zero, List.set_cons_succ]
            rfl
          refine one_ (i := 2) (N := some 66) #[true, true, true, true, true, false, true, true, false, false, false, false] rfl rfl (by kernel_rfl) (by decide) (fun K hK => ?_)
          refine call_ 6 _ (by rfl) rfl (by go_simp; rfl) ?_
          refine (prog_calls2 x0 x1 x2 x3 x4 x5 A6 A7 A2 n6 k6 n7 k7 cs.length k2 cs (by simp) q _ (by omega) (by omega) (Kd.C_below HCo.out Hs.out)).mono ?_
          rintro e wn0 ⟨u0, r0, rfl, ho, hR, hB⟩
          refine ⟨_, rfl, ?_⟩
          refine hK.out _ _ (below_step Hs.out hB) (fun hs => ?_)
          have HO0 := Aside0.mk ho
          have HR0 := Aside0.mk hR
          clear hK K hB ho hR Hs
          have Hs := Aside0.mk hs
          clear hs
          refine norm_ (a' := ?_) ?_ ?_
          rotate_left
          · show Act.put _ (some 66) _ = _
            simp only [Act.put, List.setIfInBounds_toArray, List.set_cons_zero, List.set_cons_succ]
            rfl
          refine one_ (i := 5) (N := some 69) #[true, true, true, true, true, true, true, true, false, false, false, false] rfl rfl (by kernel_rfl) (by decide) (fun K hK => ?_)
          refine call_ 6 _ (by rfl) rfl (by go_simp; rfl) ?_
          refine (prog_calls2 x0 x1 x2 x3 x4 x5 A6 A7 A43 n6 k6 n7 k7 (cs.length + 1) c43 (cs ++ [(⟨h0, h1, h2, h3, h4⟩ : S31)]) (by simp) q _ (by omega) (by omega) (Kd.C_below HCm.out Hs.out)).mono ?_
          rintro e wn1 ⟨u1, r1, rfl, ho, hR, hB⟩
          refine ⟨_, rfl, ?_⟩
          refine hK.out _ _ (below_step Hs.out hB) (fun hs => ?_)
          have HO1 := Aside0.mk ho
          have HR1 := Aside0.mk hR
          have HR0 := Aside0.mk (Kd.R_below HR0.out hB)
          clear hK K hB ho hR Hs
          have Hs := Aside0.mk hs
          clear hs
          refine norm_ (a' := ?_) ?_ ?_
          rotate_left
          · show Act.put _ (some 69) _ = _
            simp only [Act.put, List.setIfInBounds_toArray, List.set_cons_zero, List.set_cons_succ]
            rfl
          refine one_ (i := 8) (N := some 72) #[true, true, true, true, true, true, true, true, true, false, false, false] rfl rfl (by kernel_rfl) (by decide) (fun K hK => ?_)
          refine call_ 6 _ (by rfl) rfl (by go_simp; rfl) ?_
          refine (prog_calls2 x0 x1 x2 x3 x4 x5 A6 A7 Ab n6 k6 n7 k7 cs.length cb cs.reverse (by simp) q _ (by omega) (by omega) (Kd.C_below HCb.out Hs.out)).mono ?_
          rintro e wn2 ⟨u2, r2, rfl, ho, hR, hB⟩
          refine ⟨_, rfl, ?_⟩
          refine hK.out _ _ (below_step Hs.out hB) (fun hs => ?_)
          have HO2 := Aside0.mk ho
          have HR2 := Aside0.mk hR
          have HR0 := Aside0.mk (Kd.R_below HR0.out hB)
          have HR1 := Aside0.mk (Kd.R_below HR1.out hB)
          clear hK K hB ho hR Hs
          have Hs := Aside0.mk hs
          clear hs
          refine norm_ (a' := ?_) ?_ ?_
          rotate_left
          · show Act.put _ (some 72) _ = _
            simp only [Act.put, List.setIfInBounds_toArray, List.set_cons_zero, List.set_cons_succ]
            rfl
          refine pure_ (i := 9) (N := some 11) (v := ?_) (a' := ?_) #[true, true, true, true, true, true, true, true, true, true, false, false] rfl rfl (by kernel_rfl) (fun _ _ _ h => h) (Or.inl ⟨by rfl, ?_⟩) ?_ ?_
          rotate_left
          · intro w'
            go_simp
            with_reducible rfl
          rotate_left
          · simp only [Act.put, List.setIfInBounds_toArray, List.set_cons_zero, List.set_cons_succ]
            rfl
          refine pure_ (i := 10) (N := some 12) (v := ?_) (a' := ?_) #[true, true, true, true, true, true, true, true, true, true, true, false] rfl rfl (by kernel_rfl) (fun _ _ _ h => h) (Or.inl ⟨by rfl, ?_⟩) ?_ ?_
          rotate_left
          · intro w'
            go_simp
            with_reducible rfl
          rotate_left
          · simp only [Act.put, List.setIfInBounds_toArray, List.set_cons_zero, List.set_cons_succ]
            rfl
          refine pure_ (i := 11) (N := some 13) (v := ?_) (a' := ?_) #[true, true, true, true, true, true, true, true, true, true, true, true] rfl rfl (by kernel_rfl) (fun _ _ _ h => h) (Or.inl ⟨by rfl, ?_⟩) ?_ ?_
          rotate_left
          · intro w'
            go_simp
            with_reducible rfl
          rotate_left
          · simp only [Act.put, List.setIfInBounds_toArray, List.set_cons_zero, List.set_cons_succ]
            rfl
          refine done_ (by kernel_rfl) ?_
          go_wp2_with fail
          obtain rfl := out_back HO0.out HO2.out
          have hl0 := out_len HO0.out
          have hl1 := out_len HO1.out
          have HM := Aside0.mk (out_more HO0.out HO1.out)
          clear HO0 HO1 HO2
          refine (same_calls (r := r0) (by omega) HR0.out HR2.out).mono ?_
          rintro e w9 ⟨rfl, ⟨m9, rfl⟩⟩
          have HX0 := Aside0.mk (Kd.R_drewN HR0.out m9)
          have HX1 := Aside0.mk (Kd.R_drewN HR1.out m9)
          have HZ := Aside0.mk (below_step HB5.out (below_step HB.out (pw_below_drewN Hs.out m9)))
          clear HR0 HR1 HR2 Hs
          generalize wn2.drewN m9 = w9 at *
          obtain ⟨Ax, cx, rfl, hcx, hCx⟩ := Kd.R_reads HX0.out
          obtain ⟨Ay, cy, rfl, hcy, hCy⟩ := Kd.R_reads HX1.out
          have HCx := Aside0.mk hCx
          have HCy := Aside0.mk hCy
          have hmlen := HM.out.2
          clear hCx hCy HX0 HX1 hcx hcy
          go_wp2_with fail
          go_loopw [14] (fun u wx => ∃ i : Nat, i ≤ r0.length ∧ u = .int .i64 i ∧ Aside0 (Below w9.heap.size w9 wx)) (fun u _ => r0.length - (intOf u).toNat)
          case atStart => exact ⟨0, by omega, rfl, ⟨Below.refl _ _⟩⟩
          case round =>
            rename_i wx
            obtain ⟨i, hi, rfl, HBx⟩ := hrel
            by_cases hlt : i < r0.length
            · obtain ⟨x, hx⟩ : ∃ x, rd r0 (i : Int) = x := ⟨_, rfl⟩
              obtain ⟨adx, hAx, hcellx⟩ := Kd.at_int HCx.out (i : Int) (by omega) (by omega)
              rw [Int.toNat_natCast, hx] at hcellx
              have HXM : Aside0 (x ∈ r1) := ⟨HM.out.1 x (by rw [← hx]; exact rd_memi hlt)⟩
              subst hAx
              have HLX := Aside0.mk hcellx
              clear hx hcellx
              have i0 : (0 : Int) ≤ (i : Int) := by omega
              have i1 : (i : Int) < (r0.length : Int) := by omega
              go_wp2_with fail
              go_loopw [15, 16] (fun t u wy => ∃ k : Nat, k ≤ r1.length ∧ t = .bool (decide (x ∈ r1.take k)) ∧ u = .int .i64 k ∧ Aside0 (Below w9.heap.size w9 wy)) (fun _ u _ => r1.length - (intOf u).toNat)
              case atStart => exact ⟨0, by omega, rfl, rfl, HBx⟩
              case round =>
                rename_i wy
                clear HBx
                obtain ⟨k, hk, rfl, rfl, HBy⟩ := hrel
                obtain ⟨b, hb⟩ : ∃ b, decide (x ∈ r1.take k) = b := ⟨_, rfl⟩
                rw [hb]
                have HBB := Aside0.mk hb
                clear hb
                by_cases hkl : k < r1.length
                · obtain ⟨y, hy⟩ : ∃ y, rd r1 (k : Int) = y := ⟨_, rfl⟩
                  obtain ⟨ady, hAy, hcelly⟩ := Kd.at_int (Kd.C_below HCy.out HBy.out) (k : Int) (by omega) (by omega)
                  rw [Int.toNat_natCast, hy] at hcelly
                  have HST : Aside0 (decide (x ∈ r1.take (k + 1)) = (b || (y == x))) := ⟨by rw [take_memi hkl, hy, HBB.out]⟩
                  subst hAy
                  have hcellx := pw_cell_below HBy.out HLX.out
                  have k0 : (0 : Int) ≤ (k : Int) := by omega
                  have k1 : (k : Int) < (r1.length : Int) := by omega
                  clear hy HBB
                  cases b
                  · go_wp2_with fail
                    go_quiet (fail)
                    go_wp2_with fail
                    go_roundw
                    case rel => exact ⟨k + 1, by omega, by rw [HST.out]; rfl, by go_num, ⟨by repeat (first | exact HBy.out | apply pw_below_drewN | apply below_drew1)⟩⟩
                    case measure =>
                      simp [intOf]
                      omega
                  · go_wp2_with fail
                    go_quiet (fail)
                    go_wp2_with fail
                    go_roundw
                    case rel => exact ⟨k + 1, by omega, by rw [HST.out]; rfl, by go_num, ⟨by repeat (first | exact HBy.out | apply pw_below_drewN | apply below_drew1)⟩⟩
                    case measure =>
                      simp [intOf]
                      omega
                · have e : b = true := by
                    rw [← HBB.out, List.take_of_length_le (by omega)]
                    exact decide_eq_true HXM.out
                  subst e
                  clear HBB
                  go_wp2_with fail
                  go_roundw
                  case rel => exact ⟨i + 1, by omega, by go_num, HBy⟩
                  case measure =>
                    simp [intOf]
                    omega
            · go_wp2_with fail
              go_ret
              exact ⟨rfl, below_step HZ.out HBx.out⟩
theorem walk (x0 x1 x2 x3 x4 x5 : Int) (A6 : Option Addr) (n6 k6 : Nat) (A7 : Option Addr) (n7 k7 : Nat) (A8 : Option Addr) (n8 k8 : Nat) (X6 X7 X8 : Nat → Nat → Int) (h0 h1 h2 h3 h4 q : Int) (w : World) (h6 : AidRows.Recs w A6 n6 [.i64, .i64, .i64] X6) (y6 : n6 * 24 ≤ 140737488351232) (e6 : n6 ≤ k6) (h7 : AidRows.Recs w A7 n7 [.i64, .i64, .i64] X7) (y7 : n7 * 24 ≤ 140737488351232) (e7 : n7 ≤ k7) (h8 : AidRows.Recs w A8 n8 [.i64, .i64, .i64, .i64, .i64] X8) (y8 : n8 * 40 ≤ 140737488351232) (e8 : n8 ≤ k8)
    (_ : (Lit.int .i64 q).wf = true) :
    Calls Try.prog 5 #[.agg #[.int .i64 x0, .int .i64 x1, .int .i64 x2, .int .i64 x3, .int .i64 x4, .int .i64 x5, .slice A6 n6 k6, .slice A7 n7 k7, .slice A8 n8 k8], .agg #[.int .i64 h0, .int .i64 h1, .int .i64 h2, .int .i64 h3, .int .i64 h4], .int .i64 q] w fun e w' => e = .returned (.bool true) ∧ Below w.heap.size w w' := by
  have hl := ReachRecG.chans_length n8 X8
  by_cases c : 40 < n6 ∨ 40 < n8
  · have := many x0 x1 x2 x3 x4 x5 A6 A7 A8 n6 k6 n7 k7 k8 (ReachRecG.chans n8 X8) h0 h1 h2 h3 h4 q w ⟨by rw [hl]; exact c⟩
    rwa [hl] at this
  · have := few x0 x1 x2 x3 x4 x5 A6 A7 A8 n6 k6 n7 k7 k8 (ReachRecG.chans n8 X8) h0 h1 h2 h3 h4 q w (by omega) (by rw [hl]; omega) ⟨ReachRecG.chans_row h8 (by omega)⟩
    rwa [hl] at this
end Go.Proofs.Ytemblbcbkfkbfaa.LawGrows
