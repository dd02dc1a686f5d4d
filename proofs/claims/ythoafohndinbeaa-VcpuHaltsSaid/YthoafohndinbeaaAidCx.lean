/- An argument that is a processor's context, by value: opened into its cells. -/
import Derived.Test.YthoafohndinbeaaVcpuCheck
import Derived.Deep.Slices
import Derived.Deep.Fields
import Derived.ChangeSame
import Derived.SizedLaws
import Derived.ChangeSlices
import Derived.Below
namespace Go.Proofs.Ythoafohndinbeaa.AidCx
open Go.ChangeShapes Go.WideShapes Go.Deep Go.RowKit Go.Proofs.Ythoafohndinbeaa.VcpuBase Go.Proofs.Ythoafohndinbeaa.VcpuCheck Go.Proofs.Ythoafohndinbeaa.Aid
set_option maxRecDepth 100000
section
variable {H : Type} {enc : TypeId × Value → H} {P : Program} {W : World} {base : Nat} {spare : Nat → Bool} {held : Bool}
theorem one_int {n : Nat} {t : TypeId} {k : IntKind} {v : Value} {y : DataW H × List MemPlace} (hu : P.underlying t = some (.int k)) (h : DataW.trod enc P W base spare held n t [v] = some y) : ∃ x : Int, v = .int k x ∧ (Lit.int k x).wf = true := by
  obtain ⟨x, hv, _, hw⟩ := DataW.trod_int hu h
  exact ⟨x, by simpa using hv, hw⟩
theorem arr_ints {n m : Nat} {t e : TypeId} {k : IntKind} {cs : List Value} {y : DataW H × List MemPlace} (ht : P.underlying t = some (.array n e)) (hu : P.underlying e = some (.int k)) (hc : P.cellsOf e = 1) (h : DataW.trod enc P W base spare held m t cs = some y) :
    ∀ i v, i < n → cs[i]? = some v → ∃ x : Int, v = .int k x ∧ (Lit.int k x).wf = true := by
  obtain ⟨xs, m', _, _, _, hl, hg⟩ := DataW.trod_array ht h
  intro i v hi hv
  have h1 := hg i hi
  rw [hc, Nat.mul_one, List.getElem?_eq_getElem (show i < xs.length by omega)] at h1
  have hlt : i < cs.length := (List.getElem?_eq_some_iff.1 hv).1
  have hd : (cs.drop i).take 1 = [v] := by
    rw [List.drop_eq_getElem_cons hlt]
    have := (List.getElem?_eq_some_iff.1 hv).2
    rw [this]
    rfl
  rw [hd] at h1
  exact one_int hu h1
end
theorem getD_bd {M : Int} (h0 : 0 < M) : ∀ (l : List Int), (∀ x ∈ l, 0 ≤ x ∧ x < M) → ∀ i : Nat, 0 ≤ l.getD i 0 ∧ l.getD i 0 < M
  | [], _, i => by simp; omega
  | x :: l, h, 0 => by simpa using h x (by simp)
  | x :: l, h, i + 1 => by simpa using getD_bd h0 l (fun y hy => h y (by simp [hy])) i
section
variable {H : Type} {enc : TypeId × Value → H} {W : World} {base : Nat} {spare : Nat → Bool} {held : Bool}
set_option maxHeartbeats 1600000 in
theorem open_cx {r : Reach} {b0 : Nat} {v : Value} {d : DataW H} {p : List MemPlace} (hv : Value.okWide Try.prog W r b0 31 v) (h : DataW.Trod enc Try.prog W base spare held 31 v d p) : ∃ c : Cx, v = .agg (vc c) ∧ Wf c := by
  obtain ⟨cs, rfl, hsz⟩ := okWide_struct Try.underlying31 hv
  obtain ⟨l⟩ := cs
  have hC : Try.prog.cellsOf 31 = 35 := by kernel_rfl
  have c22 : Try.prog.cellsOf 22 = 1 := by kernel_rfl
  have c24 : Try.prog.cellsOf 24 = 1 := by kernel_rfl
  have c27 : Try.prog.cellsOf 27 = 25 := by kernel_rfl
  have c29 : Try.prog.cellsOf 29 = 8 := by kernel_rfl
  have c23 : Try.prog.cellsOf 23 = 16 := by kernel_rfl
  have c25 : Try.prog.cellsOf 25 = 8 := by kernel_rfl
  have c3 : Try.prog.cellsOf 3 = 1 := by kernel_rfl
  have c4 : Try.prog.cellsOf 4 = 1 := by kernel_rfl
  match l, hsz.trans hC with
  | k0 :: k1 :: k2 :: k3 :: k4 :: k5 :: k6 :: k7 :: k8 :: k9 :: k10 :: k11 :: k12 :: k13 :: k14 :: k15 :: k16 :: k17 :: k18 :: k19 :: k20 :: k21 :: k22 :: k23 :: k24 :: k25 :: k26 :: k27 :: k28 :: k29 :: k30 :: k31 :: k32 :: k33 :: k34 :: [], _ =>
    obtain ⟨fuel, hf⟩ := h
    obtain ⟨ys, n, _, _, _, hlen, hg⟩ := DataW.trod_struct Try.underlying31 hf
    have g0 := hg 0 _ rfl
    have g1 := hg 1 _ rfl
    have g2 := hg 2 _ rfl
    have g3 := hg 3 _ rfl
    clear hg hf
    match ys, hlen with
    | [y0, y1, y2, y3], _ =>
      have a0 : DataW.trod enc Try.prog W base spare held n 27 (k0 :: k1 :: k2 :: k3 :: k4 :: k5 :: k6 :: k7 :: k8 :: k9 :: k10 :: k11 :: k12 :: k13 :: k14 :: k15 :: k16 :: k17 :: k18 :: k19 :: k20 :: k21 :: k22 :: k23 :: k24 :: []) = some y0 := by
        simpa [c27, Value.cells] using g0
      have a1 : DataW.trod enc Try.prog W base spare held n 29 [k25, k26, k27, k28, k29, k30, k31, k32] = some y1 := by
        simpa [c29, Value.cells] using g1
      have a2 : DataW.trod enc Try.prog W base spare held n 3 [k33] = some y2 := by
        simpa [c3, Value.cells] using g2
      have a3 : DataW.trod enc Try.prog W base spare held n 4 [k34] = some y3 := by
        simpa [c4, Value.cells] using g3
      clear g0 g1 g2 g3
      obtain ⟨zs, n', _, _, _, hlen, hg⟩ := DataW.trod_struct Try.underlying27 a0
      have g0 := hg 0 _ rfl
      have g1 := hg 1 _ rfl
      have g2 := hg 2 _ rfl
      clear hg a0
      match zs, hlen with
      | [z0, z1, z2], _ =>
        have b0 : DataW.trod enc Try.prog W base spare held n' 23 (k0 :: k1 :: k2 :: k3 :: k4 :: k5 :: k6 :: k7 :: k8 :: k9 :: k10 :: k11 :: k12 :: k13 :: k14 :: k15 :: []) = some z0 := by
          simpa [c23] using g0
        have b1 : DataW.trod enc Try.prog W base spare held n' 25 [k16, k17, k18, k19, k20, k21, k22, k23] = some z1 := by
          simpa [c25] using g1
        have b2 : DataW.trod enc Try.prog W base spare held n' 22 [k24] = some z2 := by
          simpa [c22] using g2
        clear g0 g1 g2
        have hR := arr_ints Try.underlying23 Try.underlying22 c22 b0
        have hF := arr_ints Try.underlying25 Try.underlying24 c24 b1
        obtain ⟨us, n'', _, _, _, hlen, hg⟩ := DataW.trod_struct Try.underlying29 a1
        match us, hlen with
        | [u0, u1, u2, u3, u4, u5, u6, u7], _ =>
          have t0 : DataW.trod enc Try.prog W base spare held n'' 22 [k25] = some u0 := by
            simpa [c22] using hg 0 _ rfl
          have t1 : DataW.trod enc Try.prog W base spare held n'' 22 [k26] = some u1 := by
            simpa [c22] using hg 1 _ rfl
          have t2 : DataW.trod enc Try.prog W base spare held n'' 22 [k27] = some u2 := by
            simpa [c22] using hg 2 _ rfl
          have t3 : DataW.trod enc Try.prog W base spare held n'' 22 [k28] = some u3 := by
            simpa [c22] using hg 3 _ rfl
          have t4 : DataW.trod enc Try.prog W base spare held n'' 22 [k29] = some u4 := by
            simpa [c22] using hg 4 _ rfl
          have t5 : DataW.trod enc Try.prog W base spare held n'' 22 [k30] = some u5 := by
            simpa [c22] using hg 5 _ rfl
          have t6 : DataW.trod enc Try.prog W base spare held n'' 22 [k31] = some u6 := by
            simpa [c22] using hg 6 _ rfl
          have t7 : DataW.trod enc Try.prog W base spare held n'' 22 [k32] = some u7 := by
            simpa [c22] using hg 7 _ rfl
          clear hg a1 b0 b1
          obtain ⟨x0, rfl, w0⟩ := hR 0 k0 (by omega) rfl
          obtain ⟨x1, rfl, w1⟩ := hR 1 k1 (by omega) rfl
          obtain ⟨x2, rfl, w2⟩ := hR 2 k2 (by omega) rfl
          obtain ⟨x3, rfl, w3⟩ := hR 3 k3 (by omega) rfl
          obtain ⟨x4, rfl, w4⟩ := hR 4 k4 (by omega) rfl
          obtain ⟨x5, rfl, w5⟩ := hR 5 k5 (by omega) rfl
          obtain ⟨x6, rfl, w6⟩ := hR 6 k6 (by omega) rfl
          obtain ⟨x7, rfl, w7⟩ := hR 7 k7 (by omega) rfl
          obtain ⟨x8, rfl, w8⟩ := hR 8 k8 (by omega) rfl
          obtain ⟨x9, rfl, w9⟩ := hR 9 k9 (by omega) rfl
          obtain ⟨x10, rfl, w10⟩ := hR 10 k10 (by omega) rfl
          obtain ⟨x11, rfl, w11⟩ := hR 11 k11 (by omega) rfl
          obtain ⟨x12, rfl, w12⟩ := hR 12 k12 (by omega) rfl
          obtain ⟨x13, rfl, w13⟩ := hR 13 k13 (by omega) rfl
          obtain ⟨x14, rfl, w14⟩ := hR 14 k14 (by omega) rfl
          obtain ⟨x15, rfl, w15⟩ := hR 15 k15 (by omega) rfl
          obtain ⟨x16, rfl, w16⟩ := hF 0 k16 (by omega) rfl
          obtain ⟨x17, rfl, w17⟩ := hF 1 k17 (by omega) rfl
          obtain ⟨x18, rfl, w18⟩ := hF 2 k18 (by omega) rfl
          obtain ⟨x19, rfl, w19⟩ := hF 3 k19 (by omega) rfl
          obtain ⟨x20, rfl, w20⟩ := hF 4 k20 (by omega) rfl
          obtain ⟨x21, rfl, w21⟩ := hF 5 k21 (by omega) rfl
          obtain ⟨x22, rfl, w22⟩ := hF 6 k22 (by omega) rfl
          obtain ⟨x23, rfl, w23⟩ := hF 7 k23 (by omega) rfl
          obtain ⟨x24, rfl, w24⟩ := one_int Try.underlying22 b2
          obtain ⟨x25, rfl, w25⟩ := one_int Try.underlying22 t0
          obtain ⟨x26, rfl, w26⟩ := one_int Try.underlying22 t1
          obtain ⟨x27, rfl, w27⟩ := one_int Try.underlying22 t2
          obtain ⟨x28, rfl, w28⟩ := one_int Try.underlying22 t3
          obtain ⟨x29, rfl, w29⟩ := one_int Try.underlying22 t4
          obtain ⟨x30, rfl, w30⟩ := one_int Try.underlying22 t5
          obtain ⟨x31, rfl, w31⟩ := one_int Try.underlying22 t6
          obtain ⟨x32, rfl, w32⟩ := one_int Try.underlying22 t7
          obtain ⟨x33, rfl, w33⟩ := one_int Try.underlying3 a2
          obtain ⟨x34, hx, _⟩ := DataW.trod_bool Try.underlying4 a3
          obtain rfl : k34 = .bool x34 := by simpa using hx
          refine ⟨⟨fun i => (x0 :: x1 :: x2 :: x3 :: x4 :: x5 :: x6 :: x7 :: x8 :: x9 :: x10 :: x11 :: x12 :: x13 :: x14 :: x15 :: []).getD i 0, fun i => [x16, x17, x18, x19, x20, x21, x22, x23].getD i 0, x24, x25, x26, x27, x28, x29, x30, x31, x32, x33, x34⟩, rfl, ?_⟩
          refine ⟨getD_bd (by omega) _ ?_, getD_bd (by omega) _ ?_, u32_bd w24, u32_bd w25, u32_bd w26, u32_bd w27, u32_bd w28, u32_bd w29, u32_bd w30, u32_bd w31, u32_bd w32, i64_bd w33⟩
          · intro x hx
            simp only [List.mem_cons, List.not_mem_nil, or_false] at hx
            rcases hx with rfl | rfl | rfl | rfl | rfl | rfl | rfl | rfl | rfl | rfl | rfl | rfl | rfl | rfl | rfl | rfl
            · exact u32_bd w0
            · exact u32_bd w1
            · exact u32_bd w2
            · exact u32_bd w3
            · exact u32_bd w4
            · exact u32_bd w5
            · exact u32_bd w6
            · exact u32_bd w7
            · exact u32_bd w8
            · exact u32_bd w9
            · exact u32_bd w10
            · exact u32_bd w11
            · exact u32_bd w12
            · exact u32_bd w13
            · exact u32_bd w14
            · exact u32_bd w15
          · intro x hx
            simp only [List.mem_cons, List.not_mem_nil, or_false] at hx
            rcases hx with rfl | rfl | rfl | rfl | rfl | rfl | rfl | rfl
            · exact u64_bd w16
            · exact u64_bd w17
            · exact u64_bd w18
            · exact u64_bd w19
            · exact u64_bd w20
            · exact u64_bd w21
            · exact u64_bd w22
            · exact u64_bd w23
end
end Go.Proofs.Ythoafohndinbeaa.AidCx
