/- The program's Reach comes to the least set: the walk. -/
import Derived.Test.YtemblbcbkfkbfaaPReachGrowsx1
import Derived.Test.YtemblbcbkfkbfaaReachPlainG
import Derived.Test.YtemblbcbkfkbfaaAid
import Derived.RegionTactic
import Derived.ChangeAlike
import Derived.WalkMore
import Derived.Deep.LoopGhost
namespace Go.Proofs.Ytemblbcbkfkbfaa.ReachWalkG
open Go.RowKit Go.Proofs.Ytemblbcbkfkbfaa.PReachGrows Go.Proofs.YtemblbcbkfkbfaaW.PrintWords Go.Proofs.YtemblbcbkfkbfaaW.PrintLast Go.Proofs.YtemblbcbkfkbfaaW.PrintMore Go.Proofs.Ytemblbcbkfkbfaa.ReachPlainG Go.Proofs.Ytemblbcbkfkbfaa.Aid
set_option linter.unusedVariables false
set_option linter.unusedSimpArgs false
/-- A row of n yes or no. -/
def rowb (p : Int → Bool) (n : Nat) : Array Value := ((List.range n).map fun i : Nat => Value.bool (p (i : Int))).toArray
theorem rowb_get (p : Int → Bool) {i n : Nat} (h : i < n) : (rowb p n)[i]? = some (.bool (p (i : Int))) := by
  simp [rowb, h]
theorem rowb_set (p : Int → Bool) (i n : Nat) (b : Bool) : (rowb p n).setIfInBounds i (.bool b) = rowb (fun j => if j = (i : Int) then b else p j) n := by
  apply Array.ext'
  simp only [rowb, Array.toList_setIfInBounds]
  apply List.ext_getElem?
  intro j
  rw [List.getElem?_set]
  simp only [List.getElem?_map, List.length_map, List.length_range]
  by_cases hj : j < n
  · rw [List.getElem?_range hj]
    by_cases hi : i = j
    · subst hi
      simp [hj]
    · have hn : ¬ (j : Int) = (i : Int) := fun h => hi (by omega)
      simp [hi, hn]
  · rw [List.getElem?_eq_none (by simpa using hj)]
    simp [hj]
    intro h
    omega
theorem rowb_congr {p q : Int → Bool} {n : Nat} (h : ∀ i : Nat, i < n → p (i : Int) = q (i : Int)) : rowb p n = rowb q n := by
  simp only [rowb]
  congr 1
  refine List.map_congr_left fun i hi => ?_
  rw [h i (List.mem_range.1 hi)]
theorem info4b : (Try.prog.info? 4).map (fun i => (i.zero, i.size, i.bytes)) = some (some (.bool false), 1, 1) := by kernel_rfl
theorem info3b : (Try.prog.info? 3).map (fun i => (i.zero, i.size, i.bytes)) = some (some (.int .i64 0), 1, 8) := by kernel_rfl
theorem made_row (n : Nat) : madeCells (Value.bool false).cells (n * 1) = rowb (fun _ => false) n := by
  apply Array.ext'
  simp [madeCells, rowb, Value.cells, Nat.mod_one]
theorem make_row (n : Nat) (h : n ≤ 1000) (W : World) : (Instr.makeSlice 37 (.int .i64 n) (.int .i64 n)).run Try.prog W = .ok (.slice (some ⟨W.heap.size, 0, none⟩) n n) (W.alloc (.cells (rowb (fun _ => false) n) 4)) := by
  obtain ⟨i, hi, e⟩ := Option.map_eq_some_iff.1 info4b
  injection e with e1 e2
  injection e2 with e2 e3
  have hr := run_make (P := Try.prog) W 37 4 i (.bool false) Try.underlying37 hi e1 .i64 .i64 n n (by omega) (by omega) (by rw [e3]; omega) (by omega)
  rw [Int.toNat_natCast, e2, made_row] at hr
  exact hr
theorem known_yes (p : Nat) (gn n : Nat) (w : World) (hc : w.cell? ⟨gn, 0, none⟩ = some (.int .i64 n)) (hp : p < n) :
    Calls Try.prog 11 #[.int .i64 p, .pointer (some ⟨gn, 0, none⟩)] w fun e w' => e = .returned (.bool true) ∧ w' = w := by
  have h1 : decide (p < n) = true := decide_eq_true hp
  have h2 : decide ((p : Int) < (n : Int)) = true := decide_eq_true (by omega)
  go_enter Try.func11, Try.ntmps11
  go_wp2
  go_ret
  exact ⟨rfl, rfl⟩
theorem known_no (p : Int) (gn n : Nat) (w : World) (hc : w.cell? ⟨gn, 0, none⟩ = some (.int .i64 n)) (hp : Aside0 (¬ inR n p)) :
    Calls Try.prog 11 #[.int .i64 p, .pointer (some ⟨gn, 0, none⟩)] w fun e w' => e = .returned (.bool false) ∧ w' = w := by
  by_cases h : 0 ≤ p
  · have h2 : decide (p < (n : Int)) = false := decide_eq_false fun c => hp.out ⟨h, c⟩
    go_enter Try.func11, Try.ntmps11
    go_wp2
    go_ret
    exact ⟨rfl, rfl⟩
  · go_enter Try.func11, Try.ntmps11
    go_wp2
    go_ret
    exact ⟨rfl, rfl⟩
/-- What the loops leave: the configuration, how many partitions there are, and the row. -/
def St (w wr : World) (gc gn gi n : Nat) (CF : Array Value) (s : Int → Bool) : Prop :=
  wr.heap[gc]? = some (.cells CF 26 (0, 0)) ∧ wr.heap[gn]? = some (.cells #[.int .i64 n] 3 (0, 0)) ∧ wr.heap[gi]? = some (.cells (rowb s n) 4 (0, 0)) ∧ w.heap.size ≤ gi ∧ Below w.heap.size w wr
theorem St.alloc {w wr : World} {gc gn gi n : Nat} {CF : Array Value} {s : Int → Bool} (h : St w wr gc gn gi n CF s) (o : Obj) : St w (wr.alloc o) gc gn gi n CF s :=
  ⟨blk_alloc h.1 _, blk_alloc h.2.1 _, blk_alloc h.2.2.1 _, h.2.2.2.1, below_alloc h.2.2.2.2 _⟩
theorem St.drew {w wr : World} {gc gn gi n : Nat} {CF : Array Value} {s : Int → Bool} (h : St w wr gc gn gi n CF s) : St w wr.drew gc gn gi n CF s :=
  ⟨h.1, h.2.1, h.2.2.1, h.2.2.2.1, below_drew1 h.2.2.2.2⟩
theorem St.drewN {w wr : World} {gc gn gi n : Nat} {CF : Array Value} {s : Int → Bool} (h : St w wr gc gn gi n CF s) (m : Nat) : St w (wr.drewN m) gc gn gi n CF s :=
  ⟨h.1, h.2.1, h.2.2.1, h.2.2.2.1, pw_below_drewN h.2.2.2.2 m⟩
theorem St.put {w wr : World} {gc gn gi n : Nat} {CF : Array Value} {s : Int → Bool} (h : St w wr gc gn gi n CF s) (v : Nat) : St w (wr.setCell ⟨gi, v, none⟩ (.bool true)) gc gn gi n CF (fun j => if j = (v : Int) then true else s j) :=
  ⟨blk_far h.1 (blk_ne h.1 h.2.2.1 (by decide)) _, blk_far h.2.1 (blk_ne h.2.1 h.2.2.1 (by decide)) _, blk_put h.2.2.1 v _ (rowb_set s v n true), h.2.2.2.1, below_set h.2.2.2.2 h.2.2.2.1⟩
theorem next_rule {n i : Nat} {cs : List S31} {s : Int → Bool} (h : ∀ j, j < i → Rule n (rd_T31 cs (j : Int)) (fun p => s p = true)) (h1 : Rule n (rd_T31 cs (i : Int)) (fun p => s p = true)) : ∀ j, j < i + 1 → Rule n (rd_T31 cs (j : Int)) (fun p => s p = true) := fun j hj => by
  rcases Nat.lt_or_ge j i with c | c
  · exact h j c
  · have e : j = i := by omega
    rw [e]
    exact h1
theorem rd_in (cs : List S31) {i : Nat} (h : i < cs.length) : rd_T31 cs (i : Int) ∈ cs := by
  have : rd_T31 cs (i : Int) = cs[i] := by simp [rd_T31, h]
  rw [this]
  exact List.getElem_mem h
theorem put_or (s : Int → Bool) (v p : Int) : (if p = v then true else s p) = true ↔ s p = true ∨ p = v := by
  by_cases c : p = v <;> simp [c]
theorem put_bool (s : Int → Bool) (v p : Int) : (if p = v then true else s p) = (s p || p == v) := by
  by_cases c : p = v <;> simp [c]
theorem rule_out {n : Nat} {x : S31} {s : Int → Bool} (hs : ∀ p, s p = true → inR n p) (h : ¬ (inR n x.f1 ∧ inR n x.f2)) : Rule n x (fun p => s p = true) := by
  refine ⟨fun a b => ?_, fun _ a b => ?_⟩
  · exact absurd ⟨b, hs _ a⟩ h
  · exact absurd ⟨hs _ a, b⟩ h
set_option maxHeartbeats 1600000 in
set_option maxRecDepth 100000 in
theorem reach_no (x0 x1 x2 x3 x4 x5 : Int) (A6 A7 A8 : Option Addr) (n k6 n7 k7 n8 k8 : Nat) (q : Int) (w : World) (hq : Aside0 (¬ inR n q)) :
    Calls Try.prog 6 #[.agg #[.int .i64 x0, .int .i64 x1, .int .i64 x2, .int .i64 x3, .int .i64 x4, .int .i64 x5, .slice A6 n k6, .slice A7 n7 k7, .slice A8 n8 k8], .int .i64 q] w fun e w' => e = .returned (.slice none 0 0) ∧ Below w.heap.size w w' := by
  by_cases c : q < 0
  · go_enter Try.func6, Try.ntmps6
    go_wp2
    go_step3
    go_wp2
    try rw [Exit.noGoto_ret]
    go_ret
    exact ⟨rfl, by repeat (first | exact Below.refl _ _ | apply below_alloc)⟩
  · have c2 : (n : Int) ≤ q := by
      have := hq.out
      unfold inR at this
      omega
    go_enter Try.func6, Try.ntmps6
    go_wp2
    go_step3
    go_wp2
    try rw [Exit.noGoto_ret]
    go_ret
    exact ⟨rfl, by repeat (first | exact Below.refl _ _ | apply below_alloc)⟩
set_option maxHeartbeats 1600000 in
set_option maxRecDepth 100000 in
theorem reach_yes (x0 x1 x2 x3 x4 x5 : Int) (A6 A7 A8 : Option Addr) (n k6 n7 k7 k8 : Nat) (cs : List S31) (q : Nat) (w : World) (hq : q < n) (hn : n ≤ 1000) (hcl : cs.length ≤ 1000) (hr : Aside0 (Kd.C k31 w A8 cs.length cs)) :
    Calls Try.prog 6 #[.agg #[.int .i64 x0, .int .i64 x1, .int .i64 x2, .int .i64 x3, .int .i64 x4, .int .i64 x5, .slice A6 n k6, .slice A7 n7 k7, .slice A8 cs.length k8], .int .i64 q] w fun e w' => ∃ v s, e = .returned v ∧ Least n cs q (fun p => s p = true) ∧ Kd.R (Kd.int .i64) 3 w' w.heap.size (fun _ => True) v (outB n s) ∧ Below w.heap.size w w' := by
  have hmk := make_row n hn
  have hmf : ∀ (fn : Fn) (first cap : Array Value) (w : World), (Instr.makeFunc fn first cap).run Try.prog w = .ok (.func fn first cap) w := fun _ _ _ _ => rfl
  have hg0 := rowb_get (fun _ => false) hq
  have q0 : (0 : Int) ≤ (q : Int) := by omega
  have q1 : (q : Int) < (n : Int) := by omega
  have d1 : decide ((q : Int) < 0) = false := decide_eq_false (by omega)
  have d2 : decide (n ≤ q) = false := decide_eq_false (by omega)
  have d3 : decide ((n : Int) ≤ (q : Int)) = false := decide_eq_false (by omega)
  obtain ⟨CF, hCF⟩ : ∃ CF : Array Value, CF = #[.int .i64 x0, .int .i64 x1, .int .i64 x2, .int .i64 x3, .int .i64 x4, .int .i64 x5, .slice A6 n k6, .slice A7 n7 k7, .slice A8 cs.length k8] := ⟨_, rfl⟩
  have HCF := Aside0.mk hCF
  clear hCF
  go_enter Try.func6, Try.ntmps6
  go_wp2_with fail
  go_step3
  go_wp2_with fail
  go_step3
  clear hmk hg0
  go_wp2_with fail
  rw [← HCF.out]
  have HS0 : Aside0 (St w (((w.alloc (.cells CF 26)).alloc (.cells #[.int .i64 n] 3)).alloc (.cells ((rowb (fun _ => false) n).setIfInBounds q (.bool true)) 4)) w.heap.size (w.heap.size + 1) (w.heap.size + 1 + 1) n CF (fun p => p == (q : Int))) := ⟨by
    refine ⟨blk_alloc (blk_alloc (blk_new w _) _) _, ?_, ?_, by omega, by repeat (first | exact Below.refl _ _ | apply below_alloc)⟩
    · have h := blk_alloc (blk_new (w.alloc (.cells CF 26)) (.cells #[.int .i64 n] 3)) (.cells ((rowb (fun _ => false) n).setIfInBounds q (.bool true)) 4)
      simpa using h
    · have h := blk_new ((w.alloc (.cells CF 26)).alloc (.cells #[.int .i64 n] 3)) (.cells ((rowb (fun _ => false) n).setIfInBounds q (.bool true)) 4)
      rw [rowb_set] at h
      have e : rowb (fun j : Int => if j = (q : Int) then true else false) n = rowb (fun p => p == (q : Int)) n := rowb_congr fun i _ => by
        by_cases c : (i : Int) = (q : Int) <;> simp [c]
      rw [e] at h
      rw [rowb_set, e]
      simpa using h⟩
  have HQ : Aside0 (Sound n cs q (fun p => (p == (q : Int)) = true)) := ⟨⟨by simp, fun p hp => by
    have : p = (q : Int) := by simpa using hp
    subst this
    exact ⟨q0, q1⟩, fun T t _ _ p hp => by
    have : p = (q : Int) := by simpa using hp
    subst this
    exact t⟩⟩
  have C8 : Aside0 (CF[8]? = some (.slice A8 cs.length k8)) := ⟨by rw [HCF.out]; rfl⟩
  clear HCF q0 q1 hq d1 d2 d3
  generalize ((w.alloc (.cells CF 26)).alloc (.cells #[.int .i64 n] 3)).alloc (.cells ((rowb (fun _ => false) n).setIfInBounds q (.bool true)) 4) = W at *
  go_loopg [31] (miss n fun p => p == (q : Int)) (fun g v wr => ∃ s : Int → Bool, miss n s = g ∧ Aside0 (St w wr w.heap.size (w.heap.size + 1) (w.heap.size + 1 + 1) n CF s) ∧ Aside0 (Sound n cs q (fun p => s p = true)))
  case atStart => exact ⟨fun p => p == (q : Int), rfl, HS0, HQ⟩
  case round =>
    clear HS0 HQ
    obtain ⟨s, hg, HS, HQ⟩ := hrel
    have HG := Aside0.mk hg
    clear hg
    have c8 := (blk_cell HS.out.1 8).trans C8.out
    go_wp2_with fail
    clear c8
    go_loopg [31] cs.length (fun g v wr => ∃ i : Nat, i + g = cs.length ∧ v = .int .i64 i ∧ Aside0 (St w wr w.heap.size (w.heap.size + 1) (w.heap.size + 1 + 1) n CF s) ∧ Aside0 (∀ j, j < i → Rule n (rd_T31 cs (j : Int)) (fun p => s p = true)))
    case atStart => exact ⟨0, by omega, rfl, HS, ⟨fun j hj => absurd hj (by omega)⟩⟩
    case round =>
      clear HS
      obtain ⟨i, hi, rfl, HS, HR⟩ := hrel
      cases gk with
      | zero =>
        have hle : ¬ (i : Int) < (cs.length : Int) := by omega
        have cn' : wr.cell? ⟨w.heap.size + 1, 0, none⟩ = some (.int .i64 n) := (blk_cell HS.out.2.1 0).trans rfl
        have HL : Aside0 (Least n cs q (fun p => s p = true)) := ⟨HQ.out, fun x hx => by
          obtain ⟨j, hj, rfl⟩ := List.getElem_of_mem hx
          have h9 := HR.out j (by omega)
          have e2 : rd_T31 cs (j : Int) = cs[j] := by simp [rd_T31, hj]
          rwa [e2] at h9⟩
        clear HR HQ HG
        go_wp2_with fail
        clear cn' hle
        go_loopw [10, 88] (fun v u wx => ∃ p : Nat, p ≤ n ∧ u = .int .i64 p ∧ Aside0 (Kd.R (Kd.int .i64) 3 wx w.heap.size (fun _ => True) v (outB p s)) ∧ Aside0 (wx.heap[w.heap.size + 1 + 1]? = some (.cells (rowb s n) 4 (0, 0))) ∧ Aside0 (Below w.heap.size w wx)) (fun _ u _ => n - (intOf u).toNat)
        case atStart => exact ⟨0, by omega, rfl, ⟨Kd.R_nil _ _ _ _ _⟩, ⟨HS.out.2.2.1⟩, ⟨HS.out.2.2.2.2⟩⟩
        case round =>
          clear HS
          rename_i v0 _ wx
          obtain ⟨p, hp, rfl, HV, HI, HB⟩ := hrel
          by_cases hlt : p < n
          · have p0 : (0 : Int) ≤ (p : Int) := by omega
            have p1 : (p : Int) < (n : Int) := by omega
            have cp := (blk_cell HI.out p).trans (rowb_get s hlt)
            have HZ := Aside0.mk (outB_succ p s)
            have HLN := Aside0.mk (outB_len p s)
            cases sp : s (p : Int)
            · rw [sp] at cp
              have HZ2 : Aside0 (outB (p + 1) s = outB p s) := ⟨by rw [HZ.out, sp, if_neg (by decide), List.append_nil]⟩
              clear sp HZ
              go_wp2_with fail
              go_roundw
              case rel => exact ⟨p + 1, by omega, by go_num, ⟨HZ2.out ▸ HV.out⟩, HI, HB⟩
              case measure =>
                simp [intOf]
                omega
            · rw [sp] at cp
              have HZ2 : Aside0 (outB (p + 1) s = outB p s ++ [(p : Int)]) := ⟨by rw [HZ.out, sp, if_pos rfl]⟩
              clear sp HZ
              go_wp2_with (at_builtin; refine Kd.R_append (Kd.int .i64) (w0 := w) w.heap.size rfl (.tmp 95) (.tmp 97) 27 3 (.int .i64 0) 8 rfl Try.underlying27 info3b rfl (by decide) (by omega) _ (outB p s) (p : Int) [.int .i64 p] (fun _ => True) (fun _ => False) rfl rfl rfl (fun _ hk => hk.elim) (fun _ _ => trivial) HV.out HB.out HB.out.size (by have := HLN.out; omega) ?_; intro v1 w1 ho hb hg hat)
              have HB1 := Aside0.mk hb
              have HV1 := Aside0.mk ho
              have HI1 := Aside0.mk (blk_grown HI.out hg (Kd.R_ne HV.out HI.out (by decide)))
              clear hb ho hg hat HV HI HB
              go_wp2_with fail
              go_roundw
              case rel => exact ⟨p + 1, by omega, by go_num, ⟨HZ2.out ▸ HV1.out⟩, HI1, HB1⟩
              case measure =>
                simp [intOf]
                omega
          · have e : p = n := by omega
            subst e
            clear hp hlt
            go_wp2_with fail
            try rw [Exit.noGoto_ret]
            go_ret
            exact ⟨_, s, rfl, HL.out, HV.out, HB.out⟩
      | succ gk1 =>
        have hlt : i < cs.length := by omega
        obtain ⟨ad, hA, hx0, hx1, hx2, hx3, hx4⟩ := at_T31 (Kd.C_below hr.out HS.out.2.2.2.2) (i : Int) (by omega) (by omega)
        rw [Int.toNat_natCast] at hx0 hx1 hx2 hx3 hx4
        subst hA
        obtain ⟨y0, hy0⟩ : ∃ y, (rd_T31 cs (i : Int)).f0 = y := ⟨_, rfl⟩
        obtain ⟨y1, hy1⟩ : ∃ y, (rd_T31 cs (i : Int)).f1 = y := ⟨_, rfl⟩
        obtain ⟨y2, hy2⟩ : ∃ y, (rd_T31 cs (i : Int)).f2 = y := ⟨_, rfl⟩
        rw [hy0] at hx0
        rw [hy1] at hx1
        rw [hy2] at hx2
        have H0 := Aside0.mk hy0
        have H1 := Aside0.mk hy1
        have H2 := Aside0.mk hy2
        clear hy0 hy1 hy2
        have ln := blk_lt HS.out.2.1
        have li := blk_lt HS.out.2.2.1
        by_cases kF : inR n y1
        · obtain ⟨f, rfl⟩ := Int.eq_ofNat_of_zero_le kF.1
          have hf : f < n := by have := kF.2; omega
          by_cases kT : inR n y2
          · obtain ⟨t, rfl⟩ := Int.eq_ofNat_of_zero_le kT.1
            have ht : t < n := by have := kT.2; omega
            clear kF kT
            go_wp2_with fail
            refine (known_yes f _ n _ ((blk_cell (HS.out.alloc _).2.1 0).trans rfl) hf).mono ?_
            rintro e w1 ⟨rfl, rfl⟩
            go_wp2_with fail
            refine (known_yes t _ n _ ((blk_cell (HS.out.alloc _).2.1 0).trans rfl) ht).mono ?_
            rintro e w1 ⟨rfl, rfl⟩
            go_upto_region 11 with fail
            have f0 : (0 : Int) ≤ (f : Int) := by omega
            have t0 : (0 : Int) ≤ (t : Int) := by omega
            have f1 : (f : Int) < (n : Int) := by omega
            have t1 : (t : Int) < (n : Int) := by omega
            have cf := (blk_cell HS.out.2.2.1 f).trans (rowb_get s hf)
            have ct := (blk_cell HS.out.2.2.1 t).trans (rowb_get s ht)
            have zf := blk_frozen HS.out.2.2.1 f
            have zt := blk_frozen HS.out.2.2.1 t
            cases st : s (t : Int) <;> cases sf : s (f : Int)
            · rw [st] at ct
              rw [sf] at cf
              have HF := Aside0.mk sf
              have HT := Aside0.mk st
              clear st sf
              cases k0 : (y0 == 2)
              · have HX : Aside0 (Rule n (rd_T31 cs (i : Int)) (fun p => s p = true)) := ⟨by
                  unfold Rule
                  rw [H0.out, H1.out, H2.out]
                  simp [HF.out, HT.out]⟩
                go_wp2_with fail
                go_roundg gk1
                case rel => exact ⟨i + 1, by omega, by go_num, ⟨by repeat (first | exact HS.out | apply St.alloc)⟩, ⟨next_rule HR.out HX.out⟩⟩
                case measure => omega
              · have HX : Aside0 (Rule n (rd_T31 cs (i : Int)) (fun p => s p = true)) := ⟨by
                  unfold Rule
                  rw [H0.out, H1.out, H2.out]
                  simp [HF.out, HT.out]⟩
                go_wp2_with fail
                go_roundg gk1
                case rel => exact ⟨i + 1, by omega, by go_num, ⟨by repeat (first | exact HS.out | apply St.alloc)⟩, ⟨next_rule HR.out HX.out⟩⟩
                case measure => omega
            · rw [st] at ct
              rw [sf] at cf
              have HF := Aside0.mk sf
              have HT := Aside0.mk st
              clear st sf
              cases k0 : (y0 == 2)
              · have HX : Aside0 (Rule n (rd_T31 cs (i : Int)) (fun p => s p = true)) := ⟨by
                  unfold Rule
                  rw [H0.out, H1.out, H2.out]
                  simp [HF.out, HT.out, beq_eq_false_iff_ne.1 k0]⟩
                go_wp2_with fail
                go_roundg gk1
                case rel => exact ⟨i + 1, by omega, by go_num, ⟨by repeat (first | exact HS.out | apply St.alloc)⟩, ⟨next_rule HR.out HX.out⟩⟩
                case measure => omega
              · go_wp2_with fail
                go_roundg (miss n (fun j => if j = (t : Int) then true else s j))
                case rel => exact ⟨fun j => if j = (t : Int) then true else s j, rfl, ⟨by repeat (first | exact HS.out | apply St.put | apply St.alloc)⟩, ⟨HQ.out.grow (rd_in cs hlt) (v := (t : Int)) ⟨by omega, by omega⟩ (fun p => put_or s t p) (.inr ⟨H2.out.symm, H0.out.trans (beq_iff_eq.1 k0), by show s _ = true; rw [H1.out]; exact HF.out⟩)⟩⟩
                case measure =>
                  rw [← HG.out]
                  exact miss_lt (v := (t : Int)) ⟨by omega, by omega⟩ HT.out (fun p => put_bool s t p)
            · rw [st] at ct
              rw [sf] at cf
              have HF := Aside0.mk sf
              have HT := Aside0.mk st
              clear st sf
              go_wp2_with fail
              go_roundg (miss n (fun j => if j = (f : Int) then true else s j))
              case rel => exact ⟨fun j => if j = (f : Int) then true else s j, rfl, ⟨by repeat (first | exact HS.out | apply St.put | apply St.alloc)⟩, ⟨HQ.out.grow (rd_in cs hlt) (v := (f : Int)) ⟨by omega, by omega⟩ (fun p => put_or s f p) (.inl ⟨H1.out.symm, by show s _ = true; rw [H2.out]; exact HT.out⟩)⟩⟩
              case measure =>
                rw [← HG.out]
                exact miss_lt (v := (f : Int)) ⟨by omega, by omega⟩ HF.out (fun p => put_bool s f p)
            · rw [st] at ct
              rw [sf] at cf
              have HF := Aside0.mk sf
              have HT := Aside0.mk st
              clear st sf
              cases k0 : (y0 == 2)
              · have HX : Aside0 (Rule n (rd_T31 cs (i : Int)) (fun p => s p = true)) := ⟨by
                  unfold Rule
                  rw [H0.out, H1.out, H2.out]
                  simp [HF.out, HT.out]⟩
                go_wp2_with fail
                go_roundg gk1
                case rel => exact ⟨i + 1, by omega, by go_num, ⟨by repeat (first | exact HS.out | apply St.alloc)⟩, ⟨next_rule HR.out HX.out⟩⟩
                case measure => omega
              · have HX : Aside0 (Rule n (rd_T31 cs (i : Int)) (fun p => s p = true)) := ⟨by
                  unfold Rule
                  rw [H0.out, H1.out, H2.out]
                  simp [HF.out, HT.out]⟩
                go_wp2_with fail
                go_roundg gk1
                case rel => exact ⟨i + 1, by omega, by go_num, ⟨by repeat (first | exact HS.out | apply St.alloc)⟩, ⟨next_rule HR.out HX.out⟩⟩
                case measure => omega
          · have HX : Aside0 (Rule n (rd_T31 cs (i : Int)) (fun p => s p = true)) := ⟨rule_out HQ.out.2.1 (by rw [H1.out, H2.out]; exact fun h => kT h.2)⟩
            have KT := Aside0.mk kT
            clear kF kT
            go_wp2_with fail
            refine (known_yes f _ n _ ((blk_cell (HS.out.alloc _).2.1 0).trans rfl) hf).mono ?_
            rintro e w1 ⟨rfl, rfl⟩
            go_wp2_with fail
            refine (known_no y2 _ n _ ((blk_cell (HS.out.alloc _).2.1 0).trans rfl) KT).mono ?_
            rintro e w1 ⟨rfl, rfl⟩
            go_wp2_with fail
            go_roundg gk1
            case rel => exact ⟨i + 1, by omega, by go_num, ⟨by repeat (first | exact HS.out | apply St.alloc)⟩, ⟨next_rule HR.out HX.out⟩⟩
            case measure => omega
        · have HX : Aside0 (Rule n (rd_T31 cs (i : Int)) (fun p => s p = true)) := ⟨rule_out HQ.out.2.1 (by rw [H1.out, H2.out]; exact fun h => kF h.1)⟩
          have KF := Aside0.mk kF
          clear kF
          go_wp2_with fail
          refine (known_no y1 _ n _ ((blk_cell (HS.out.alloc _).2.1 0).trans rfl) KF).mono ?_
          rintro e w1 ⟨rfl, rfl⟩
          go_wp2_with fail
          go_roundg gk1
          case rel => exact ⟨i + 1, by omega, by go_num, ⟨by repeat (first | exact HS.out | apply St.alloc)⟩, ⟨next_rule HR.out HX.out⟩⟩
          case measure => omega
end Go.Proofs.Ytemblbcbkfkbfaa.ReachWalkG
