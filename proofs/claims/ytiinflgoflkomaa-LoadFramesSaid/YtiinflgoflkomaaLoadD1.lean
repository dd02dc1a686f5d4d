/- load.Decode's closure take. -/
import Derived.Test.YtiinflgoflkomaaLoadD0
namespace Go.Proofs.Ytiinflgoflkomaa.LoadD1
open Go.RowKit Go.Proofs.Ytiinflgoflkomaa.PLoadChecks Go.Proofs.YtiinflgoflkomaaW.PrintWords Go.Proofs.YtiinflgoflkomaaW.PrintLast Go.Proofs.YtiinflgoflkomaaW.PrintMore Go.Proofs.Ytiinflgoflkomaa.Aid Go.Proofs.Ytiinflgoflkomaa.LoadF Go.Proofs.Ytiinflgoflkomaa.LoadSame2 Go.Proofs.Ytiinflgoflkomaa.LoadEnc Go.Proofs.Ytiinflgoflkomaa.LoadPg Go.Proofs.Ytiinflgoflkomaa.LoadD0
set_option linter.unusedVariables false
set_option linter.unusedSimpArgs false
/-- The next bytes. -/
def takeS (b : List Int) (at' : Nat) (f : Option (Int × Int)) (n : Nat) : List Int × Nat × Option (Int × Int) :=
  if f = none then (if b.length < at' + n then ([], at', some ((at' : Int), 1)) else ((b.drop at').take n, at' + n, none)) else ([], at', f)
theorem made_openN {w : World} {base n : Nat} {ok : Nat → Prop} {v : Value} (hn : 1 ≤ n) (h : (Kd.int .u8).R 5 w base ok v (List.replicate n (0 : Int))) :
    ∃ (g cap : Nat) (cur : List Value), v = .slice (some ⟨g, 0, none⟩) n cap ∧ base ≤ g ∧ w.heap[g]? = some (.cells cur.toArray 5 (0, 0)) ∧ n ≤ cap ∧ cap ≤ maxLen ∧ cur.length = cap := by
  have ho := Kd.own_of_R h
  have hl : (List.replicate n (0 : Int)).length = n := List.length_replicate
  rw [hl] at ho
  obtain ⟨_, h2 | ⟨g, cap, cur, h3, h4, h5, h6, h7, h8, h9⟩⟩ := ho
  · obtain ⟨_, h0⟩ := h2
    exact absurd h0 (by omega)
  · exact ⟨g, cap, cur.toList, h3, h4, by rw [h5], h6, h7, by rw [Array.length_toList, h8, Nat.mul_one]⟩
theorem copied_row {w : World} {base g cap n : Nat} {cur : List Value} {b : List Int} (hb : b.length = n) (hg : base ≤ g) (hc : n ≤ cap) (hm : cap ≤ maxLen) (hl : cur.length = cap)
    (hh : w.heap[g]? = some (.cells (splice cur 0 (b.map fun n => Value.int .u8 n)).toArray 5 (0, 0))) : (Kd.int .u8).R 5 w base (fun _ => True) (.slice (some ⟨g, 0, none⟩) n cap) b := by
  refine Kd.R_of_own (enc := fun n => Value.int .u8 n) ?_ (fun _ _ => trivial)
  refine ⟨by simp [encs], .inr ⟨g, cap, _, by rw [hb], hg, hh, by rw [hb]; exact hc, hm, ?_, ?_⟩⟩
  · rw [List.size_toArray, length_splice _ _ _ (by simp; omega), hl, Nat.mul_one]
  · rw [Nat.mul_one, hb]
    show (splice cur 0 (b.map fun n => Value.int .u8 n)).take n = encs _ b
    have e1 : splice cur 0 (b.map fun n => Value.int .u8 n) = (b.map fun n => Value.int .u8 n) ++ cur.drop b.length := by simp [splice]
    rw [e1, List.take_append, List.take_of_length_le (by simp; omega), List.length_map, hb, Nat.sub_self, List.take_zero, List.append_nil]
    rfl
theorem sub_cells {w : World} {ad : Addr} {b : List Int} (h : (Kd.int .u8).C w (some ad) b.length b) {o n : Nat} (hj : o < b.length) :
    ∀ i v, (((b.drop o).take n).map fun n => Value.int .u8 n)[i]? = some v → w.cell? ((ad.add o).add i) = some v := by
  intro i v hv
  obtain ⟨ad', h1, h2⟩ := h.2.2 (by omega)
  obtain rfl : ad = ad' := by simpa using h1
  rw [List.getElem?_map] at hv
  obtain ⟨x, hx, rfl⟩ := Option.map_eq_some_iff.1 hv
  have hx2 : b[o + i]? = some x := by
    rw [List.getElem?_take] at hx
    split at hx
    · rwa [List.getElem?_drop] at hx
    · cases hx
  obtain ⟨c, _, hK, hc⟩ := h2 (o + i) x hx2
  have e : c = [Value.int .u8 x] := hK
  have h0 := hc 0 (.int .u8 x) (by rw [e]; rfl)
  have e2 : (Kd.int IntKind.u8).sz = 1 := rfl
  rw [e2, Nat.mul_one, Nat.add_zero] at h0
  rw [← h0]
  congr 1
  unfold Addr.add
  by_cases q0 : o = 0
  · subst q0
    simp
  · by_cases q1 : i = 0
    · subst q1
      simp
    · have q2 : o + i ≠ 0 := by omega
      simp [q0, q1, q2, Nat.add_assoc]
theorem sub_length {b : List Int} {o n : Nat} (h : o + n ≤ b.length) : ((b.drop o).take n).length = n := by
  rw [List.length_take, List.length_drop]
  omega
theorem set_at {w0 w : World} {k : K5} {A : Option Addr} {c : Nat} {b : List Int} {at' n : Nat} (h : Dst w0 w k A c b at' none) (hn : 1 ≤ n) (hl : at' + n ≤ b.length) : Dst w0 (w.setCell ⟨k.g4, 0, none⟩ (.int .i64 ((at' : Int) + (n : Int)))) k A c b (at' + n) none := by
  have far : ∀ {j t : Nat} {cs : Array Value}, w.heap[j]? = some (.cells cs t (0, 0)) → t ≠ 3 → (w.setCell ⟨k.g4, 0, none⟩ (.int .i64 ((at' : Int) + (n : Int)))).heap[j]? = some (.cells cs t (0, 0)) := fun hj ht => blk_far hj (blk_ne hj h.b4 ht) _
  obtain ⟨p, h5, hf⟩ := h.b5
  refine ⟨far h.b1 (by decide), ?_, ⟨p, far h5 (by decide), hf⟩, far h.b6 (by decide), far h.b7 (by decide), h.be.setCell h.n4 _, h.n4, h.n5, hl⟩
  have e : ((at' + n : Nat) : Int) = (at' : Int) + (n : Int) := by omega
  rw [e]
  exact blk_put h.b4 0 _ rfl
set_option maxHeartbeats 1600000 in
set_option maxRecDepth 100000 in
theorem take_calls (w0 w : World) (k : K5) (A : Option Addr) (c : Nat) (b : List Int) (at' : Nat) (f : Option (Int × Int)) (n : Nat) (hD : Aside0 (Dst w0 w k A c b at' f)) (hR : Aside0 (Kd.C (Kd.int .u8) w0 A b.length b)) (hbc : Aside0 (b.length ≤ c)) (hbl : Aside0 (b.length ≤ 140737488351232)) (hn : Aside0 (n ≤ 65535)) (hn1 : Aside0 (f = none → 1 ≤ n)) (hc4 : Aside0 (w0.heap.size ≤ w.heap.size)) :
    Calls Try.prog 28 #[.int .i64 (n : Int), ptr k.g5, ptr k.g1, ptr k.g4, ptr k.g6] w fun e w' => ∃ v, e = .returned v ∧ Dst w0 w' k A c b (takeS b at' f n).2.1 (takeS b at' f n).2.2 ∧ Kd.R (Kd.int .u8) 5 w' w.heap.size (fun _ => True) v (takeS b at' f n).1 ∧ RestK k w w' := by
  obtain ⟨p, h5, hf⟩ := hD.out.b5
  have H5 := Aside0.mk h5
  have c5 : w.cell? ⟨k.g5, 0, none⟩ = some (.pointer p) := (blk_cell h5 0).trans rfl
  have c1 : w.cell? ⟨k.g1, 0, none⟩ = some (.slice A b.length c) := (blk_cell hD.out.b1 0).trans rfl
  have c4 : w.cell? ⟨k.g4, 0, none⟩ = some (.int .i64 (at' : Int)) := (blk_cell hD.out.b4 0).trans rfl
  have f4 := blk_frozen hD.out.b4 0
  have c6 : w.cell? ⟨k.g6, 0, none⟩ = some (.func (.func 27) #[] #[ptr k.g5]) := (blk_cell hD.out.b6 0).trans rfl
  have N4 := Aside0.mk hD.out.n4
  have hle := hD.out.le
  have HLE := Aside0.mk hle
  clear h5
  unfold ptr at c6 ⊢
  cases f with
  | some q =>
    obtain ⟨x0, e0⟩ := q
    obtain ⟨gf, rfl, hgf⟩ := hf
    have e : takeS b at' (some (x0, e0)) n = ([], at', some (x0, e0)) := by unfold takeS; rw [if_neg (by simp)]
    rw [e]
    clear hgf hle c4 f4 c1 c6 e
    go_enter Try.func28, Try.ntmps28
    go_wp2_with fail
    go_ret
    exact ⟨_, rfl, hD.out, Kd.R_nil _ _ _ _ _, RestK.refl⟩
  | none =>
    have hp : p = none := hf
    subst hp
    clear hf
    have z1 : wrap64 ((b.length : Int) - (at' : Int)) = (b.length : Int) - (at' : Int) := by
      have := hbl.out
      exact w64 (by omega) (by omega)
    by_cases h : b.length < at' + n
    · have e : takeS b at' none n = ([], at', some ((at' : Int), 1)) := by unfold takeS; rw [if_pos rfl, if_pos h]
      rw [e]
      have e1 : decide ((b.length : Int) - (at' : Int) < (n : Int)) = true := decide_eq_true (by omega)
      have e2 : (b.length : Int) - (at' : Int) < (n : Int) := by omega
      clear e h f4
      go_enter Try.func28, Try.ntmps28
      go_wp2_with fail
      refine (fail_calls w0 w k A c b at' none (at' : Int) 1 hD).mono ?_
      rintro e w2 ⟨rfl, hd, hr⟩
      have HD := Aside0.mk hd
      have HR := Aside0.mk hr
      obtain ⟨p, h5, hf⟩ := hd.b5
      obtain ⟨gf, rfl, _⟩ := hf
      have c5 : w2.cell? ⟨k.g5, 0, none⟩ = some (.pointer (some ⟨gf, 0, none⟩)) := (blk_cell h5 0).trans rfl
      clear hd hr h5 c1 c4 c6
      go_wp2_with fail
      go_ret
      exact ⟨_, rfl, HD.out, Kd.R_nil _ _ _ _ _, HR.out⟩
    · have e : takeS b at' none n = ((b.drop at').take n, at' + n, none) := by unfold takeS; rw [if_pos rfl, if_neg h]
      rw [e]
      have hn0 := hn1.out rfl
      have e1 : decide ((b.length : Int) - (at' : Int) < (n : Int)) = false := decide_eq_false (by omega)
      have e2 : ¬ ((b.length : Int) - (at' : Int) < (n : Int)) := by omega
      have z2 : wrap64 ((at' : Int) + (n : Int)) = (at' : Int) + (n : Int) := by
        have := hbl.out
        exact w64 (by omega) (by omega)
      have z3 : wrap64 ((at' : Int) + (n : Int) - (n : Int)) = (at' : Int) := by
        have := hbl.out
        rw [w64 (by omega) (by omega)]
        omega
      have z3b : wrap64 (at' : Int) = (at' : Int) := by
        have := hbl.out
        exact w64 (by omega) (by omega)
      have hne : ¬ c = at' := by
        have := hbc.out
        omega
      have HH : Aside0 (at' + n ≤ b.length ∧ 1 ≤ n ∧ at' < b.length) := ⟨by omega, by omega, by omega⟩
      obtain ⟨ad, hA⟩ : ∃ ad, A = some ad := by
        obtain ⟨ad, h1, _⟩ := hR.out.2.2 (by omega)
        exact ⟨ad, h1⟩
      subst hA
      clear e h hle
      go_enter Try.func28, Try.ntmps28
      have h5' : w.heap[k.g5]? = some (.cells #[.pointer none] 54 (0, 0)) := H5.out
      go_wp2_with (first | ((with_reducible refine gate_store (t := 3) (p := 3) (v := .tmp 25) rfl ?_); refine store_event (t := 3) (p := 3) (v := .tmp 25) (w1 := w.setCell ⟨k.g4, 0, none⟩ (.int .i64 ((at' : Int) + (n : Int)))) rfl rfl rfl ?hr ?_; (case hr => first | (go_simp; done) | (go_simp; rfl)); intro wb hw; have HD := Aside0.mk (show Dst w0 wb k (some ad) c b (at' + n) none by rw [hw]; exact set_at hD.out (by omega) (HH.out.1)); have HRS := Aside0.mk (show RestK k w wb by rw [hw]; exact ⟨by simp [World.setCell], fun j o hj h4 _ => (Below.heap_setCell w ⟨k.g4, 0, none⟩ _ j h4).trans hj⟩); clear hw c5 c1 c4 f4 c6; have c4 : wb.cell? ⟨k.g4, 0, none⟩ = some (.int .i64 ((at' : Int) + (n : Int))) := (blk_cell HD.out.b4 0).trans (by simp); have c1 : wb.cell? ⟨k.g1, 0, none⟩ = some (.slice (some ad) b.length c) := (blk_cell HD.out.b1 0).trans rfl) | ((with_reducible refine gate_dst (N := 27) rfl ?_); refine Kd.R_make (Kd.int .u8) (w0 := wb) wb.heap.size 5 rfl (N := 27) rfl 27 _ _ rfl (n : Int) rfl rfl Try.underlying27 (.int .u8 0) 1 info5 rfl (by decide) (by decide) (0 : Int) (ok := fun _ => True) (okp := fun _ => False) rfl (fun _ h => h.elim) trivial (by omega) (by have := hn.out; omega) (Below.refl _ _) (Nat.le_refl _) ?_; intro v7 wd ho7 hb _ _; rw [Int.toNat_natCast] at ho7; obtain ⟨g7, cap7, cur7, rfl, ge7, bk7, hc7, hm7, hl7⟩ := made_openN HH.out.2.1 ho7; have BK7 := Aside0.mk bk7; have P7 := Aside0.mk (And.intro ge7 (And.intro hc7 (And.intro hm7 hl7))); have HBD := Aside0.mk hb; clear ho7 hb ge7 bk7 hc7 hm7 hl7 c4 c1; have c4 : wd.cell? ⟨k.g4, 0, none⟩ = some (.int .i64 ((at' : Int) + (n : Int))) := (blk_cell (blk_below HD.out.b4 HBD.out) 0).trans (by simp); have c1 : wd.cell? ⟨k.g1, 0, none⟩ = some (.slice (some ad) b.length c) := (blk_cell (blk_below HD.out.b1 HBD.out) 0).trans rfl; have y1 : (at' : Int) ≤ (at' : Int) + (n : Int) := (by omega); have y2 : (at' : Int) + (n : Int) ≤ (c : Int) := (by have := HH.out; have := hbc.out; omega); have y3 : (0 : Int) ≤ (at' : Int) + (n : Int) := (by omega); have y4 : ((at' : Int) + (n : Int)).toNat = at' + n := (by omega)) | ((with_reducible refine gate_builtin (b := .copy) (xs := #[.tmp 28, .tmp 34]) rfl ?_); refine wpList_copy_splice rfl (.tmp 28) (.tmp 34) 27 27 rfl 5 Try.underlying27 size5 _ _ _ _ _ _ rfl rfl g7 0 cur7 5 BK7.out (((b.drop at').take n).map fun n => Value.int .u8 n) ?hn ?hpos ?hfit ?h1 g7 wd (Below.refl _ _) (Nat.le_refl _) ?_; (case hn => rw [List.length_map, sub_length HH.out.1]; exact (Nat.min_self n).symm); (case hpos => exact fun _ => ⟨rfl, _, rfl, sub_cells (Kd.C_below (Kd.C_below hR.out HD.out.be) HBD.out) HH.out.2.2⟩); (case hfit => rw [List.length_map, sub_length HH.out.1, P7.out.2.2.2, Nat.zero_add]; exact P7.out.2.1); (case h1 => exact u8_one _); intro we hh hb; have HBE := Aside0.mk (HBD.out.trans (below_weak hb P7.out.1)); have RV := Aside0.mk (copied_row (base := w.heap.size) (sub_length HH.out.1) (Nat.le_trans HRS.out.1 P7.out.1) P7.out.2.1 P7.out.2.2.1 P7.out.2.2.2 hh.out); have HD := Aside0.mk (HD.out.below HBE.out); have HRS := Aside0.mk (HRS.out.trans (RestK.below HBE.out)); clear hh hb c4 c1))
      go_ret
      exact ⟨_, rfl, HD.out, RV.out, HRS.out⟩
end Go.Proofs.Ytiinflgoflkomaa.LoadD1
