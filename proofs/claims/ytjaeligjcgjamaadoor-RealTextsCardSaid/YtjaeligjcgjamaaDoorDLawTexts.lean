/- RealTexts: every text of a float, and the float of every text, is the document's. -/
import Derived.Test.YtjaeligjcgjamaaDoorDRefParse
namespace Go.Proofs.YtjaeligjcgjamaaDoor.DLawTexts
open Go.RowKit Go.Proofs.YtjaeligjcgjamaaDoor.PRealOrder Go.Proofs.YtjaeligjcgjamaaDoorW.PrintWords Go.Proofs.YtjaeligjcgjamaaDoorW.PrintLast Go.Proofs.YtjaeligjcgjamaaDoorW.PrintMore Go.Proofs.YtjaeligjcgjamaaDoor.Aid Go.Proofs.YtjaeligjcgjamaaDoor.FloatPlain Go.Proofs.YtjaeligjcgjamaaDoor.DRealPure Go.Proofs.YtjaeligjcgjamaaDoor.DWorks Go.Proofs.YtjaeligjcgjamaaDoor.DTxt Go.Proofs.YtjaeligjcgjamaaDoor.DTextW Go.Proofs.YtjaeligjcgjamaaDoor.DParseW
set_option linter.unusedVariables false
set_option linter.unusedSimpArgs false
set_option maxHeartbeats 3200000 in
set_option maxRecDepth 100000 in
theorem law (a : Nat) (s : ByteArray) (w : World) (ha : a < 18446744073709551616) (hs : s.size ≤ 140737488351232) (hv : Vars w) :
    Calls Tryd.prog 3 #[.int .u64 a, .string s] w fun e w' => e = .returned (.bool true) ∧ Below w.heap.size w w' := by
  have HV := Aside0.mk hv
  have HS := Aside0.mk hs
  have HA := Aside0.mk ha
  clear hv hs ha
  go_enter Tryd.func3, Tryd.ntmps3
  go_wp2_with fail
  refine (DParseW.parse_calls s (by have := HS.out; omega) w HV.out).mono ?_
  unfold ParsePost
  rintro e w1 ⟨⟨v, er, hA, rfl⟩, hB⟩
  have HB1 := Aside0.mk hB
  have HA1 := Aside0.mk hA
  clear hB hA
  go_wp2_with fail
  refine (DRefParse.parse_calls s (by have := HS.out; omega) w1).mono ?_
  unfold DRefMan.Good
  rintro e w2 ⟨⟨v2, er2, hA, rfl⟩, hB⟩
  have HB2 := Aside0.mk (below_step HB1.out hB)
  obtain ⟨rfl, rfl⟩ := ans_one HA1.out hA
  clear hB hA HA1 HB1
  go_wp2_with fail
  refine (DTextW.text_calls a HA.out w2 (HV.out.keep HB2.out)).mono ?_
  rintro e w3 ⟨rfl, hB⟩
  have HB3 := Aside0.mk (below_step HB2.out hB)
  clear hB HB2
  go_wp2_with fail
  refine (DRefText.text_calls a HA.out w3).mono ?_
  rintro e w4 ⟨rfl, hB⟩
  have HB4 := Aside0.mk (below_step HB3.out hB)
  clear hB HB3
  have d1 : (txt a == txt a) = true := beq_self_eq_true _
  go_wp2_with fail
  go_ret
  exact ⟨rfl, HB4.out⟩
/-- In the row's form. -/
theorem texts_row (x : Int) (s : ByteArray) (w : World) (wx : (Lit.int .u64 x).wf = true) (ws : s.size ≤ 140737488351232) (hv : Vars w) :
    Calls Tryd.prog 3 #[.int .u64 x, .string s] w fun e w' => e = .returned (.bool true) ∧ Below w.heap.size w w' := by
  have h2 : 0 ≤ x ∧ x ≤ 18446744073709551615 := by simpa [Lit.wf, IntKind.min, IntKind.max, IntKind.signed, IntKind.bits] using wx
  obtain ⟨a, rfl⟩ : ∃ a : Nat, x = (a : Int) := ⟨x.toNat, by omega⟩
  exact law a s w (by omega) ws hv
end Go.Proofs.YtjaeligjcgjamaaDoor.DLawTexts
