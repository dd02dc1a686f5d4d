/- Answers are written over: only what is new turns. -/
import Derived.Test.YtiinflgoflkomaaLoadFr
namespace Go.Proofs.Ytiinflgoflkomaa.LoadSpoil
open Go.RowKit Go.Proofs.Ytiinflgoflkomaa.PLoadChecks Go.Proofs.YtiinflgoflkomaaW.PrintWords Go.Proofs.YtiinflgoflkomaaW.PrintLast Go.Proofs.YtiinflgoflkomaaW.PrintMore Go.Proofs.Ytiinflgoflkomaa.Aid Go.Proofs.Ytiinflgoflkomaa.LoadF Go.Proofs.Ytiinflgoflkomaa.LoadSame2 Go.Proofs.Ytiinflgoflkomaa.LoadEnc Go.Proofs.Ytiinflgoflkomaa.LoadPure Go.Proofs.Ytiinflgoflkomaa.LoadPg Go.Proofs.Ytiinflgoflkomaa.LoadFr
set_option linter.unusedVariables false
set_option linter.unusedSimpArgs false
def lens (l : List S46) : List Nat := l.map fun p => p.f2.length
/-- One byte of a page, and the pages with it turned. -/
theorem byte_at {w : World} {base : Nat} {ad : Addr} {c : Nat} {l : List S46} (h : Kd.S k46 46 w base (fun _ => True) (.slice (some ad) l.length c) l) {i j : Nat} (hi : i < l.length) (hj : j < (rd_T46 l (i : Int)).f2.length) :
    ∃ (g cap : Nat) (x : Int), base ≤ g ∧ (rd_T46 l (i : Int)).f2.length ≤ cap ∧ w.cell? ⟨(ad.add (i * 3)).block, (ad.add (i * 3)).off + 2, none⟩ = some (.slice (some ⟨g, 0, none⟩) (rd_T46 l (i : Int)).f2.length cap) ∧ w.cell? ⟨g, j, none⟩ = some (.int .u8 x) ∧ w.frozen? ⟨g, j, none⟩ = false ∧
      ∀ y : Int, ∃ l', Kd.S k46 46 (w.setCell ⟨g, j, none⟩ (.int .u8 y)) base (fun _ => True) (.slice (some ad) l.length c) l' ∧ lens l' = lens l := by
  obtain ⟨oki, cs, hcl, hM, hcc, hoki, hback⟩ := Kd.S_borrow h z46 (i : Int) (by omega) (by omega)
  have hrd : l.getD (i : Int).toNat z46 = rd_T46 l (i : Int) := rfl
  rw [hrd] at hM
  obtain ⟨v2, rfl, hR⟩ := k46_openM hM
  obtain ⟨g, cap, rfl, hg, _, _⟩ := Kd.R_form hR (by omega)
  have hcap := (Kd.R_reads' hR).2.1
  have hcell := Kd.R_celln (0 : Int) hR (j : Int) (by omega) (by omega)
  rw [Int.toNat_natCast] at hcell
  have h2 := hcc 2 (.slice (some ⟨g, 0, none⟩) (rd_T46 l (i : Int)).f2.length cap) rfl
  rw [Int.toNat_natCast] at h2
  refine ⟨g, cap, _, hg, hcap, ?_, hcell.1, hcell.2, fun y => ?_⟩
  · rw [← add_field _ _ 2 (by omega)]
    exact h2
  · have hput := Kd.R_put (i := (j : Int)) (x := y) (h := hR)
    rw [Int.toNat_natCast] at hput
    refine ⟨_, hback (row := some g) (x' := ⟨(rd_T46 l (i : Int)).f0, (rd_T46 l (i : Int)).f1, (rd_T46 l (i : Int)).f2.set j y⟩) hput.2 (fun k hk => ?_) ?_, ?_⟩
    · injection hk with hk
      subst hk
      exact hR.1 _ rfl
    · have hm := k46_mkM (w.setCell ⟨g, j, none⟩ (.int .u8 y)) base oki (⟨(rd_T46 l (i : Int)).f0, (rd_T46 l (i : Int)).f1, (rd_T46 l (i : Int)).f2.set j y⟩ : S46) hput.1
      exact hm
    · unfold lens
      rw [List.map_set]
      rw [Int.toNat_natCast]
      simp only [List.length_set]
      refine List.ext_getElem? fun k => ?_
      rw [List.getElem?_set]
      split
      · rename_i hk
        subst hk
        rw [List.length_map, if_pos hi, List.getElem?_map, List.getElem?_eq_getElem hi]
        simp [rd_T46, hi]
      · rfl
theorem lens_length {l l' : List S46} (h : lens l' = lens l) : l'.length = l.length := by
  have := congrArg List.length h
  simpa [lens] using this
theorem lens_at {l l' : List S46} (h : lens l' = lens l) {i : Nat} (hi : i < l.length) : (rd_T46 l' (i : Int)).f2.length = (rd_T46 l (i : Int)).f2.length := by
  have hl := lens_length h
  have h1 := congrArg (fun q => q[i]?) h
  simp only [lens, List.getElem?_map] at h1
  rw [List.getElem?_eq_getElem hi, List.getElem?_eq_getElem (by omega)] at h1
  have h2 : (l'[i]'(by omega)).f2.length = l[i].f2.length := by simpa using h1
  have e1 : rd_T46 l' (i : Int) = l'[i]'(by omega) := by simp [rd_T46, hl, hi]
  have e2 : rd_T46 l (i : Int) = l[i] := by simp [rd_T46, hi]
  rw [e1, e2]
  exact h2
set_option maxHeartbeats 1600000 in
set_option maxRecDepth 100000 in
theorem spoil_calls (v : Value) (l : List S46) (w0 w : World) (hs : Kd.S k46 46 w w0.heap.size (fun _ => True) v l) (hb0 : Below w0.heap.size w0 w) (hl : l.length ≤ 1024) (hm : ∀ m ∈ lens l, m ≤ 256) :
    Calls Try.prog 16 #[.agg #[.int .u32 0, .slice none 0 0], v] w fun e w' => e = .returned (.tuple #[]) ∧ Below w0.heap.size w0 w' := by
  obtain ⟨A, c, rfl⟩ := Kd.S_slice hs
  have HS := Aside0.mk hs
  have HB := Aside0.mk hb0
  have HL := Aside0.mk hl
  have HM := Aside0.mk hm
  clear hs hb0 hl hm
  go_enter Try.func16, Try.ntmps16
  go_wp2_with (first | ((with_reducible refine gate_dst (N := 2) rfl ?_); refine box_event ?hg (N := 2) ?hd (cs := #[.int .u32 0, .slice none 0 0]) (t := 25) ?hr ?_; (case hd => rfl); (case hg => rfl); (case hr => first | (go_simp; done) | (go_simp; rfl)); intro g2 hg w1 hbox hb; have BK2 := Aside0.mk hbox; have HS := Aside0.mk (Kd.S_below HS.out hb); have HB := Aside0.mk (HB.out.trans (below_weak hb HB.out.size)); clear hg hbox hb))
  go_loopg [4] 0 (fun k v4 w' => v4 = .int .i64 0 ∧ w' = w1)
  case atStart => exact ⟨rfl, rfl⟩
  case round =>
    obtain ⟨rfl, rfl⟩ := hrel
    have c21 : wr.cell? ⟨g2, 1, none⟩ = some (.slice none 0 0) := (blk_cell BK2.out 1).trans rfl
    go_wp2_with fail
    go_loopg [6] l.length (fun k v6 w' => ∃ (i : Nat) (l' : List S46), v6 = .int .i64 (i : Int) ∧ Aside0 (i ≤ l.length ∧ k = l.length - i) ∧ Aside0 (lens l' = lens l) ∧ Aside0 (Kd.S k46 46 w' w0.heap.size (fun _ => True) (.slice A l.length c) l') ∧ Aside0 (Below w0.heap.size w0 w'))
    case atStart => exact ⟨0, l, rfl, ⟨Nat.zero_le _, rfl⟩, ⟨rfl⟩, HS, HB⟩
    case round =>
      clear c21 BK2 HS HB
      obtain ⟨i, l', rfl, HI, HE, HSr, HBr⟩ := hrel
      have hi0 := HI.out.1
      by_cases ci : i < l.length
      · have e1 : decide ((i : Int) < (l.length : Int)) = true := decide_eq_true (by omega)
        have p0 : 0 ≤ (i : Int) := by omega
        have q0 : (i : Int) < (l.length : Int) := by omega
        have hlen := lens_length HE.out
        obtain ⟨m, hm⟩ : ∃ m, m = (rd_T46 l (i : Int)).f2.length := ⟨_, rfl⟩
        have hmb : m ≤ 256 := by
          rw [hm]
          exact HM.out _ (List.mem_map.2 ⟨_, rdp_mem ci, rfl⟩)
        have hm' := (lens_at HE.out ci).trans hm.symm
        have CI := Aside0.mk ci
        have z4 : wrap64 ((i : Int) + 1) = ((i + 1 : Nat) : Int) := by
          have := HL.out
          rw [w64 (by omega) (by omega)]
          omega
        have Z4 := Aside0.mk z4
        have HMM := Aside0.mk hm
        have HMB := Aside0.mk hmb
        obtain ⟨ad, hA⟩ : ∃ ad, A = some ad := by
          obtain ⟨_, _, hC⟩ := Kd.S_reads' HSr.out
          rw [hlen] at hC
          obtain ⟨ad, _, _, h, _⟩ := at_T46 hC (i : Int) p0 q0
          exact ⟨ad, h⟩
        subst hA
        clear z4 hm hmb hm' hlen ci hi0
        go_wp2_with fail
        go_loopg [7] m (fun k v7 w' => ∃ (j : Nat) (l' : List S46), v7 = .int .i64 (j : Int) ∧ Aside0 (j ≤ m ∧ k = m - j) ∧ Aside0 (lens l' = lens l) ∧ Aside0 (Kd.S k46 46 w' w0.heap.size (fun _ => True) (.slice (some ad) l.length c) l') ∧ Aside0 (Below w0.heap.size w0 w'))
        case atStart => exact ⟨0, l', rfl, ⟨Nat.zero_le _, rfl⟩, HE, HSr, HBr⟩
        case round =>
          clear HE HSr HBr
          obtain ⟨j, l2, rfl, HJ, HE, HSr, HBr⟩ := hrel
          have hj0 := HJ.out.1
          have hlen := lens_length HE.out
          have hm2 := (lens_at HE.out CI.out).trans HMM.out.symm
          by_cases cj : j < m
          · have e2 : decide ((j : Int) < (m : Int)) = true := decide_eq_true (by omega)
            have hS2 : Kd.S k46 46 wr w0.heap.size (fun _ => True) (.slice (some ad) l2.length c) l2 := by rw [hlen]; exact HSr.out
            obtain ⟨g, cap, x, hg, hcap, y2, y3, f3, hput⟩ := byte_at hS2 (i := i) (j := j) (by rw [hlen]; exact CI.out) (by rw [hm2]; exact cj)
            rw [hm2] at y2 hcap
            have p1 : 0 ≤ (j : Int) := by omega
            have q1 : (j : Int) < (m : Int) := by omega
            have HP := Aside0.mk hput
            have HG := Aside0.mk hg
            have CJ := Aside0.mk cj
            have z4 : wrap64 ((j : Int) + 1) = ((j + 1 : Nat) : Int) := by
              have := HMB.out
              rw [w64 (by omega) (by omega)]
              omega
            have Z5 := Aside0.mk z4
            clear z4 cj hj0 hput hg hm2 hS2
            go_wp2_with fail
            go_roundg (m - (j + 1))
            case measure =>
              have := CJ.out
              have := HJ.out.2
              omega
            case rel =>
              obtain ⟨l3, h3, h4⟩ := HP.out _
              refine ⟨j + 1, l3, congrArg _ (by first | exact Z5.out | omega), ⟨CJ.out, rfl⟩, ⟨h4.trans HE.out⟩, ⟨?_⟩, ⟨HBr.out.setCell HG.out _⟩⟩
              rw [hlen] at h3
              exact h3
          · have e2 : decide ((j : Int) < (m : Int)) = false := decide_eq_false (by omega)
            obtain ⟨_, _, hC⟩ := Kd.S_reads' HSr.out
            rw [hlen] at hC
            obtain ⟨ad', A2, c2, had, x0, x1, x2, l2', g2r⟩ := at_T46 hC (i : Int) p0 q0
            obtain rfl : ad = ad' := by simpa using had
            rw [Int.toNat_natCast, hm2] at x2
            clear x0 x1 l2' g2r hC had hj0 hm2 hlen
            go_wp2_with fail
            go_roundg (l.length - (i + 1))
            case measure =>
              have := CI.out
              have := HI.out.2
              omega
            case rel => exact ⟨i + 1, l2, congrArg _ (by first | exact Z4.out | omega), ⟨CI.out, rfl⟩, HE, HSr, HBr⟩
      · have e1 : decide ((i : Int) < (l.length : Int)) = false := decide_eq_false (by omega)
        go_wp2_with fail
        go_end0
        exact ⟨rfl, HBr.out⟩
end Go.Proofs.Ytiinflgoflkomaa.LoadSpoil
