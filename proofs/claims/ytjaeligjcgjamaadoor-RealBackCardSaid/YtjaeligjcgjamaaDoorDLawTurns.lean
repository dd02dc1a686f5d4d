/- Turns: the walk of the law. -/
import Derived.Test.YtjaeligjcgjamaaDoorDFacts2
namespace Go.Proofs.YtjaeligjcgjamaaDoor.DLawTurns
open Ieee Go.RowKit Go.Proofs.YtjaeligjcgjamaaDoor.PRealOrder Go.Proofs.YtjaeligjcgjamaaDoorW.PrintWords Go.Proofs.YtjaeligjcgjamaaDoorW.PrintLast Go.Proofs.YtjaeligjcgjamaaDoorW.PrintMore Go.Proofs.YtjaeligjcgjamaaDoor.Aid Go.Proofs.YtjaeligjcgjamaaDoor.FloatPlain Go.Proofs.YtjaeligjcgjamaaDoor.FloatExact Go.Proofs.YtjaeligjcgjamaaDoor.DRealPure Go.Proofs.YtjaeligjcgjamaaDoor.DRealFl Go.Proofs.YtjaeligjcgjamaaDoor.DRealAr Go.Proofs.YtjaeligjcgjamaaDoor.DRealPick Go.Proofs.YtjaeligjcgjamaaDoor.DLawAriths Go.Proofs.YtjaeligjcgjamaaDoor.DLawCompares Go.Proofs.YtjaeligjcgjamaaDoor.DWorks Go.Proofs.YtjaeligjcgjamaaDoor.DFacts Go.Proofs.YtjaeligjcgjamaaDoor.DFacts2
set_option linter.unusedVariables false
set_option linter.unusedSimpArgs false
theorem square_from {n : Int} (n0 : 0 ≤ n) (n1 : n < 4294967296) : ∃ f x : Nat, fromR (n / 256) = (f : Int) ∧ f < 18446744073709551616 ∧ x < 18446744073709551616 ∧ res (fop .mul f f) = x ∧ res (double.sqrt x) = f := by
  obtain ⟨x, h1, h2, h3⟩ := square_r (N := (n / 256).toNat) (by omega)
  refine ⟨double.nearest false (n / 256).toNat 0, x, ?_, Nat.lt_of_lt_of_le (nearest_lt _ _ _).1 (by decide), h2, h1, h3⟩
  show ((floatOfInt .f64 (wrap32 (n / 256)) : Nat) : Int) = _
  rw [from_nat (by omega) (by omega)]
set_option maxHeartbeats 3200000 in
set_option maxRecDepth 100000 in
theorem law (a b : Nat) (n : Int) (w : World) (ha : a < 18446744073709551616) (hb : b < 18446744073709551616) (n0 : 0 ≤ n) (n1 : n < 4294967296) (hz : w.cell? ⟨6, 15, none⟩ = some (.int .u8 4)) :
    Calls Tryd.prog 6 #[.int .u64 a, .int .u64 b, .int .u32 n] w fun e w' => e = .returned (.bool true) ∧ Below w.heap.size w w' := by
  obtain ⟨f, x, hf, hfl, hxl, hx1, hx2⟩ := square_from n0 n1
  have HF := Aside0.mk hf
  have HX1 := Aside0.mk hx1
  have HX2 := Aside0.mk hx2
  have ea := andNot_rg ha
  have eb := andNot_rg hb
  have ex := xor_ng hb
  have hm := ng_lt hb
  have HS1 := Aside0.mk (turn_r a b).1
  have HS2 := Aside0.mk (turn_r a b).2
  have HS3 := Aside0.mk (sub_ng_r (a := a) hb)
  have HXX := Aside0.mk ex
  have hl := pk_lt (l := true) ha hb
  have hg := pk_lt (l := false) ha hb
  have HP : Aside0 (rg a ≤ 9218868437227405312 → rg b ≤ 9218868437227405312 → (pk true a b = a ∧ pk false a b = b) ∨ (pk true a b = b ∧ pk false a b = a)) := ⟨fun na nb => pick_two ha hb na nb⟩
  clear hf hx1 hx2
  go_enter Tryd.func6, Tryd.ntmps6
  go_wp2_with fail
  refine (works_calls w hz).mono ?_
  rintro e w1 ⟨rfl, hB⟩
  have HB1 := Aside0.mk hB
  clear hB hz
  obtain ⟨na, hna⟩ : ∃ q, decide (9218868437227405312 < rg a) = q := ⟨_, rfl⟩
  obtain ⟨nb, hnb⟩ : ∃ q, decide (9218868437227405312 < rg b) = q := ⟨_, rfl⟩
  have ta : decide ((9218868437227405312 : Int) < ((rg a : Nat) : Int)) = na := by rw [← hna]; exact decide_eq_decide.2 (by omega)
  have tb : decide ((9218868437227405312 : Int) < ((rg b : Nat) : Int)) = nb := by rw [← hnb]; exact decide_eq_decide.2 (by omega)
  have HNA := Aside0.mk hna
  have HNB := Aside0.mk hnb
  clear hna hnb
  generalize ng b = m at *
  go_wp2_with fail
  refine (prog46 ha hb _).mono ?_
  rw [HS1.out]
  rintro e w2 ⟨rfl, k, hw⟩
  have HB2 : Aside0 (Below w.heap.size w w2) := ⟨by rw [hw]; exact pw_below_drewN HB1.out k⟩
  clear hw HB1
  go_wp2_with fail
  refine (prog46 hb ha _).mono ?_
  rintro e w3 ⟨rfl, k, hw⟩
  have HB3 : Aside0 (Below w.heap.size w w3) := ⟨by rw [hw]; exact pw_below_drewN HB2.out k⟩
  clear hw HB2
  go_wp2_with fail
  refine (prog48 ha hb _).mono ?_
  rw [HS2.out]
  rintro e w4 ⟨rfl, k, hw⟩
  have HB4 : Aside0 (Below w.heap.size w w4) := ⟨by rw [hw]; exact pw_below_drewN HB3.out k⟩
  clear hw HB3
  go_wp2_with fail
  refine (prog48 hb ha _).mono ?_
  rintro e w5 ⟨rfl, k, hw⟩
  have HB5 : Aside0 (Below w.heap.size w w5) := ⟨by rw [hw]; exact pw_below_drewN HB4.out k⟩
  clear hw HB4
  go_wp2_with fail
  refine (prog53 hb (b := 0) (by decide) _).mono ?_
  rw [HXX.out]
  rintro e w6 ⟨rfl, k, hw⟩
  have HB6 : Aside0 (Below w.heap.size w w6) := ⟨by rw [hw]; exact pw_below_drewN HB5.out k⟩
  clear hw HB5
  go_wp2_with fail
  refine (prog47 ha hm _).mono ?_
  rw [HS3.out, HS1.out]
  rintro e w7 ⟨rfl, k, hw⟩
  have HB7 : Aside0 (Below w.heap.size w w7) := ⟨by rw [hw]; exact pw_below_drewN HB6.out k⟩
  clear hw HB6
  go_wp2_with fail
  refine (prog51 ha hb _).mono ?_
  rintro e w8 ⟨rfl, k, hw⟩
  have HB8 : Aside0 (Below w.heap.size w w8) := ⟨by rw [hw]; exact pw_below_drewN HB7.out k⟩
  clear hw HB7
  go_wp2_with fail
  refine (prog52 ha hb _).mono ?_
  rintro e w9 ⟨rfl, k, hw⟩
  have HB9 : Aside0 (Below w.heap.size w w9) := ⟨by rw [hw]; exact pw_below_drewN HB8.out k⟩
  clear hw HB8
  generalize res (fop .add b a) = s at *
  generalize res (fop .mul b a) = p at *
  generalize pk true a b = l at *
  generalize pk false a b = g at *
  clear HS1 HS2 HS3 HXX
  cases na
  · cases nb
    · have h1 : rg a ≤ 9218868437227405312 := by
        have := of_decide_eq_false HNA.out
        omega
      have h2 : rg b ≤ 9218868437227405312 := by
        have := of_decide_eq_false HNB.out
        omega
      have HP2 := HP.out h1 h2
      clear HP h1 h2
      rcases HP2 with ⟨rfl, rfl⟩ | ⟨rfl, rfl⟩
      · go_wp2_with fail
        refine (from_prog (n / 256) _).mono ?_
        rw [HF.out]
        rintro e w10 ⟨rfl, rfl⟩
        go_wp2_with fail
        refine (prog48 hfl hfl _).mono ?_
        rw [HX1.out]
        rintro e w10 ⟨rfl, k, hw⟩
        have HB10 : Aside0 (Below w.heap.size w w10) := ⟨by rw [hw]; exact pw_below_drewN HB9.out k⟩
        clear hw HB9
        go_wp2_with fail
        refine (prog50 hxl hb _).mono ?_
        rw [HX2.out]
        rintro e w11 ⟨rfl, k, hw⟩
        have HB11 : Aside0 (Below w.heap.size w w11) := ⟨by rw [hw]; exact pw_below_drewN HB10.out k⟩
        clear hw HB10
        go_wp2_with fail
        refine (num_calls _ _).mono ?_
        rintro e w12 ⟨rfl, rfl⟩
        go_wp2_with fail
        go_ret
        exact ⟨rfl, HB11.out⟩
      · by_cases hc : l = g
        · subst hc
          go_wp2_with fail
          refine (from_prog (n / 256) _).mono ?_
          rw [HF.out]
          rintro e w10 ⟨rfl, rfl⟩
          go_wp2_with fail
          refine (prog48 hfl hfl _).mono ?_
          rw [HX1.out]
          rintro e w10 ⟨rfl, k, hw⟩
          have HB10 : Aside0 (Below w.heap.size w w10) := ⟨by rw [hw]; exact pw_below_drewN HB9.out k⟩
          clear hw HB9
          go_wp2_with fail
          refine (prog50 hxl hb _).mono ?_
          rw [HX2.out]
          rintro e w11 ⟨rfl, k, hw⟩
          have HB11 : Aside0 (Below w.heap.size w w11) := ⟨by rw [hw]; exact pw_below_drewN HB10.out k⟩
          clear hw HB10
          go_wp2_with fail
          refine (num_calls _ _).mono ?_
          rintro e w12 ⟨rfl, rfl⟩
          go_wp2_with fail
          go_ret
          exact ⟨rfl, HB11.out⟩
        · have q1 : (((l : Nat) : Int) == ((g : Nat) : Int)) = false := by
            rw [beq_eq_false_iff_ne]
            omega
          have q2 : decide (l = g) = false := decide_eq_false hc
          go_wp2_with fail
          refine (from_prog (n / 256) _).mono ?_
          rw [HF.out]
          rintro e w10 ⟨rfl, rfl⟩
          go_wp2_with fail
          refine (prog48 hfl hfl _).mono ?_
          rw [HX1.out]
          rintro e w10 ⟨rfl, k, hw⟩
          have HB10 : Aside0 (Below w.heap.size w w10) := ⟨by rw [hw]; exact pw_below_drewN HB9.out k⟩
          clear hw HB9
          go_wp2_with fail
          refine (prog50 hxl hb _).mono ?_
          rw [HX2.out]
          rintro e w11 ⟨rfl, k, hw⟩
          have HB11 : Aside0 (Below w.heap.size w w11) := ⟨by rw [hw]; exact pw_below_drewN HB10.out k⟩
          clear hw HB10
          go_wp2_with fail
          refine (num_calls _ _).mono ?_
          rintro e w12 ⟨rfl, rfl⟩
          go_wp2_with fail
          go_ret
          exact ⟨rfl, HB11.out⟩
    · go_wp2_with fail
      refine (from_prog (n / 256) _).mono ?_
      rw [HF.out]
      rintro e w10 ⟨rfl, rfl⟩
      go_wp2_with fail
      refine (prog48 hfl hfl _).mono ?_
      rw [HX1.out]
      rintro e w10 ⟨rfl, k, hw⟩
      have HB10 : Aside0 (Below w.heap.size w w10) := ⟨by rw [hw]; exact pw_below_drewN HB9.out k⟩
      clear hw HB9
      go_wp2_with fail
      refine (prog50 hxl hb _).mono ?_
      rw [HX2.out]
      rintro e w11 ⟨rfl, k, hw⟩
      have HB11 : Aside0 (Below w.heap.size w w11) := ⟨by rw [hw]; exact pw_below_drewN HB10.out k⟩
      clear hw HB10
      go_wp2_with fail
      refine (num_calls _ _).mono ?_
      rintro e w12 ⟨rfl, rfl⟩
      go_wp2_with fail
      go_ret
      exact ⟨rfl, HB11.out⟩
  · cases nb
    · go_wp2_with fail
      refine (from_prog (n / 256) _).mono ?_
      rw [HF.out]
      rintro e w10 ⟨rfl, rfl⟩
      go_wp2_with fail
      refine (prog48 hfl hfl _).mono ?_
      rw [HX1.out]
      rintro e w10 ⟨rfl, k, hw⟩
      have HB10 : Aside0 (Below w.heap.size w w10) := ⟨by rw [hw]; exact pw_below_drewN HB9.out k⟩
      clear hw HB9
      go_wp2_with fail
      refine (prog50 hxl hb _).mono ?_
      rw [HX2.out]
      rintro e w11 ⟨rfl, k, hw⟩
      have HB11 : Aside0 (Below w.heap.size w w11) := ⟨by rw [hw]; exact pw_below_drewN HB10.out k⟩
      clear hw HB10
      go_wp2_with fail
      refine (num_calls _ _).mono ?_
      rintro e w12 ⟨rfl, rfl⟩
      go_wp2_with fail
      go_ret
      exact ⟨rfl, HB11.out⟩
    · go_wp2_with fail
      refine (from_prog (n / 256) _).mono ?_
      rw [HF.out]
      rintro e w10 ⟨rfl, rfl⟩
      go_wp2_with fail
      refine (prog48 hfl hfl _).mono ?_
      rw [HX1.out]
      rintro e w10 ⟨rfl, k, hw⟩
      have HB10 : Aside0 (Below w.heap.size w w10) := ⟨by rw [hw]; exact pw_below_drewN HB9.out k⟩
      clear hw HB9
      go_wp2_with fail
      refine (prog50 hxl hb _).mono ?_
      rw [HX2.out]
      rintro e w11 ⟨rfl, k, hw⟩
      have HB11 : Aside0 (Below w.heap.size w w11) := ⟨by rw [hw]; exact pw_below_drewN HB10.out k⟩
      clear hw HB10
      go_wp2_with fail
      refine (num_calls _ _).mono ?_
      rintro e w12 ⟨rfl, rfl⟩
      go_wp2_with fail
      go_ret
      exact ⟨rfl, HB11.out⟩
end Go.Proofs.YtjaeligjcgjamaaDoor.DLawTurns
