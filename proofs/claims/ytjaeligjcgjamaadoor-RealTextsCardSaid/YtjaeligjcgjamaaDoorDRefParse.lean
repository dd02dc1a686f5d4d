/- What the reference's Parse answers: the float whose text it is, or the error. -/
import Derived.Test.YtjaeligjcgjamaaDoorDRefMan
namespace Go.Proofs.YtjaeligjcgjamaaDoor.DRefParse
open Go.RowKit Go.Proofs.YtjaeligjcgjamaaDoor.PRealOrder Go.Proofs.YtjaeligjcgjamaaDoorW.PrintWords Go.Proofs.YtjaeligjcgjamaaDoorW.PrintLast Go.Proofs.YtjaeligjcgjamaaDoorW.PrintMore Go.Proofs.YtjaeligjcgjamaaDoor.Aid Go.Proofs.YtjaeligjcgjamaaDoor.FloatPlain Go.Proofs.YtjaeligjcgjamaaDoor.DRealPure Go.Proofs.YtjaeligjcgjamaaDoor.DHex Go.Proofs.YtjaeligjcgjamaaDoor.DUnhex Go.Proofs.YtjaeligjcgjamaaDoor.DUnhexAny Go.Proofs.YtjaeligjcgjamaaDoor.DWorks Go.Proofs.YtjaeligjcgjamaaDoor.DTxt Go.Proofs.YtjaeligjcgjamaaDoor.DTextW Go.Proofs.YtjaeligjcgjamaaDoor.DRefTxt Go.Proofs.YtjaeligjcgjamaaDoor.DRefNum Go.Proofs.YtjaeligjcgjamaaDoor.DParseW Go.Proofs.YtjaeligjcgjamaaDoor.DRefMan
set_option linter.unusedVariables false
set_option linter.unusedSimpArgs false
set_option maxHeartbeats 3200000 in
set_option maxRecDepth 100000 in
theorem parse_lit_zp (w : World) : Calls Tryd.prog 10 #[.string ⟨#[48]⟩] w (DRefMan.Good [48] w) := by
  have HT : Aside0 (txt 0 = [48]) := ⟨by decide⟩
  have d7 : (txt 0 == [48]) = true := by rw [HT.out]; exact beq_self_eq_true _
  have d8 : (txt 0 != [48]) = false := by rw [bne, d7]; rfl
  have o1 : Go.bits .or .u64 9223372036854775808 9218868437227405312 = 18442240474082181120 := by decide
  have o2 : Go.bits .or .u64 0 9218868437227405312 = 9218868437227405312 := by decide
  have HC : Aside0 (candR [48] = some 0) := ⟨by rfl⟩
  have hi0 : (Instr.index 9 (.string ⟨#[48]⟩) (.int .i64 0)).run Tryd.prog w = .ok (.int .u8 48) w := idx0 _ w (by decide)
  go_enter Tryd.func10, Tryd.ntmps10
  go_wp2_with fail
  refine (DRefText.text_calls 0 (by decide) _).mono ?_
  rintro e w9 ⟨rfl, hB⟩
  have HB9 := Aside0.mk hB
  clear hB
  go_wp2_with fail
  go_ret2
  exact ⟨⟨0, 0, ansR_some HC.out HT.out, rfl⟩, HB9.out⟩
set_option maxHeartbeats 3200000 in
set_option maxRecDepth 100000 in
theorem parse_lit_zn (w : World) : Calls Tryd.prog 10 #[.string ⟨#[45, 48]⟩] w (DRefMan.Good [45, 48] w) := by
  have HT : Aside0 (txt 9223372036854775808 = [45, 48]) := ⟨by decide⟩
  have d7 : (txt 9223372036854775808 == [45, 48]) = true := by rw [HT.out]; exact beq_self_eq_true _
  have d8 : (txt 9223372036854775808 != [45, 48]) = false := by rw [bne, d7]; rfl
  have o1 : Go.bits .or .u64 9223372036854775808 9218868437227405312 = 18442240474082181120 := by decide
  have o2 : Go.bits .or .u64 0 9218868437227405312 = 9218868437227405312 := by decide
  have HC : Aside0 (candR [45, 48] = some 9223372036854775808) := ⟨by rfl⟩
  have hi0 : (Instr.index 9 (.string ⟨#[45, 48]⟩) (.int .i64 0)).run Tryd.prog w = .ok (.int .u8 45) w := idx0_45 _ w (by decide) rfl
  have hsl : (Instr.slice 9 (.string ⟨#[45, 48]⟩) (some (.int .i64 1)) none none).run Tryd.prog w = .ok (.string ⟨#[48]⟩) w := tail_at ⟨#[45, 48]⟩ 1 w (by decide)
  go_enter Tryd.func10, Tryd.ntmps10
  go_wp2_with fail
  refine (DRefText.text_calls 9223372036854775808 (by decide) _).mono ?_
  rintro e w9 ⟨rfl, hB⟩
  have HB9 := Aside0.mk hB
  clear hB
  go_wp2_with fail
  go_ret2
  exact ⟨⟨9223372036854775808, 0, ansR_some HC.out HT.out, rfl⟩, HB9.out⟩
set_option maxHeartbeats 3200000 in
set_option maxRecDepth 100000 in
theorem parse_lit_ip (w : World) : Calls Tryd.prog 10 #[.string ⟨#[105, 110, 102]⟩] w (DRefMan.Good [105, 110, 102] w) := by
  have HT : Aside0 (txt 9218868437227405312 = [105, 110, 102]) := ⟨by decide⟩
  have d7 : (txt 9218868437227405312 == [105, 110, 102]) = true := by rw [HT.out]; exact beq_self_eq_true _
  have d8 : (txt 9218868437227405312 != [105, 110, 102]) = false := by rw [bne, d7]; rfl
  have o1 : Go.bits .or .u64 9223372036854775808 9218868437227405312 = 18442240474082181120 := by decide
  have o2 : Go.bits .or .u64 0 9218868437227405312 = 9218868437227405312 := by decide
  have HC : Aside0 (candR [105, 110, 102] = some 9218868437227405312) := ⟨by rfl⟩
  have hi0 : (Instr.index 9 (.string ⟨#[105, 110, 102]⟩) (.int .i64 0)).run Tryd.prog w = .ok (.int .u8 105) w := idx0 _ w (by decide)
  go_enter Tryd.func10, Tryd.ntmps10
  go_wp2_with fail
  refine (DRefText.text_calls 9218868437227405312 (by decide) _).mono ?_
  rintro e w9 ⟨rfl, hB⟩
  have HB9 := Aside0.mk hB
  clear hB
  go_wp2_with fail
  go_ret2
  exact ⟨⟨9218868437227405312, 0, ansR_some HC.out HT.out, rfl⟩, HB9.out⟩
set_option maxHeartbeats 3200000 in
set_option maxRecDepth 100000 in
theorem parse_lit_inn (w : World) : Calls Tryd.prog 10 #[.string ⟨#[45, 105, 110, 102]⟩] w (DRefMan.Good [45, 105, 110, 102] w) := by
  have HT : Aside0 (txt 18442240474082181120 = [45, 105, 110, 102]) := ⟨by decide⟩
  have d7 : (txt 18442240474082181120 == [45, 105, 110, 102]) = true := by rw [HT.out]; exact beq_self_eq_true _
  have d8 : (txt 18442240474082181120 != [45, 105, 110, 102]) = false := by rw [bne, d7]; rfl
  have o1 : Go.bits .or .u64 9223372036854775808 9218868437227405312 = 18442240474082181120 := by decide
  have o2 : Go.bits .or .u64 0 9218868437227405312 = 9218868437227405312 := by decide
  have HC : Aside0 (candR [45, 105, 110, 102] = some 18442240474082181120) := ⟨by rfl⟩
  have hi0 : (Instr.index 9 (.string ⟨#[45, 105, 110, 102]⟩) (.int .i64 0)).run Tryd.prog w = .ok (.int .u8 45) w := idx0_45 _ w (by decide) rfl
  have hsl : (Instr.slice 9 (.string ⟨#[45, 105, 110, 102]⟩) (some (.int .i64 1)) none none).run Tryd.prog w = .ok (.string ⟨#[105, 110, 102]⟩) w := tail_at ⟨#[45, 105, 110, 102]⟩ 1 w (by decide)
  go_enter Tryd.func10, Tryd.ntmps10
  go_wp2_with fail
  refine (DRefText.text_calls 18442240474082181120 (by decide) _).mono ?_
  rintro e w9 ⟨rfl, hB⟩
  have HB9 := Aside0.mk hB
  clear hB
  go_wp2_with fail
  go_ret2
  exact ⟨⟨18442240474082181120, 0, ansR_some HC.out HT.out, rfl⟩, HB9.out⟩
set_option maxHeartbeats 3200000 in
set_option maxRecDepth 100000 in
theorem parse_nan (w : World) : Calls Tryd.prog 10 #[.string ⟨#[110, 97, 110]⟩] w (DRefMan.Good [110, 97, 110] w) := by
  go_enter Tryd.func10, Tryd.ntmps10
  go_wp2_with fail
  go_ret2
  exact ⟨⟨9221120237041090560, 0, .inl ⟨⟨by decide, fun _ => rfl⟩, by decide, rfl⟩, rfl⟩, Below.refl _ _⟩
set_option maxHeartbeats 3200000 in
set_option maxRecDepth 100000 in
theorem parse_nil (w : World) : Calls Tryd.prog 10 #[.string ⟨#[]⟩] w (DRefMan.Good [] w) := by
  go_enter Tryd.func10, Tryd.ntmps10
  go_wp2_with fail
  go_ret2
  exact ⟨⟨0, 3, ansR_none rfl, rfl⟩, Below.refl _ _⟩
theorem lit_of {s : ByteArray} {l : List UInt8} {w : World} (h : s.data.toList = l) (hc : Calls Tryd.prog 10 #[.string ⟨l.toArray⟩] w (DRefMan.Good l w)) : Calls Tryd.prog 10 #[.string s] w (DRefMan.Good s.data.toList w) := by
  have e := ba_eq h
  rw [e] at hc
  rw [h]
  exact hc
theorem take3 {T : List UInt8} (h1 : T ≠ [48]) (h2 : T ≠ [105, 110, 102]) (h3 : ¬ (3 < T.length ∧ T.length < 40 ∧ T.take 2 = [48, 120])) : mcandR T = none := by
  unfold mcandR
  rw [if_neg h1, if_neg h2, if_neg h3]
theorem takeM {T : List UInt8} (h3 : 3 < T.length ∧ T.length < 40 ∧ T.take 2 = [48, 120]) : mcandR T = manR T := by
  have h4 : T ≠ [48] := fun h => by
    rw [h] at h3
    exact absurd h3.1 (by decide)
  have h5 : T ≠ [105, 110, 102] := fun h => by
    rw [h] at h3
    exact absurd h3.1 (by decide)
  unfold mcandR
  rw [if_neg h4, if_neg h5, if_pos h3]
/-- Whatever string. -/
theorem parse_calls (s : ByteArray) (hm : s.size ≤ 140737488355328) (w : World) : Calls Tryd.prog 10 #[.string s] w (DRefMan.Good s.data.toList w) := by
  have hs := Lib.size_eq s
  by_cases hnan : s.data.toList = [110, 97, 110]
  · exact lit_of hnan (parse_nan w)
  by_cases hnil : s.data.toList = []
  · exact lit_of hnil (parse_nil w)
  have hl : 0 < s.data.toList.length := List.length_pos_iff.2 hnil
  have hn : (s.toList == [110, 97, 110]) = false := beq_eq_false_iff_ne.2 (by rw [Lib.toList_data]; exact hnan)
  have d0 : decide ((0 : Int) < (s.size : Int)) = true := decide_eq_true (by omega)
  have d0n : decide (0 < s.size) = true := decide_eq_true (by omega)
  have hh : s.data.toList.head? = some (s.data.toList.getD 0 0) := by
    have := head_at (T := s.data.toList) (i := 0) hl
    simpa using this
  by_cases h45 : s.data.toList.getD 0 0 = 45
  · rw [h45] at hh
    have hi0 := idx0_45 s w hl h45
    have hsl : (Instr.slice 9 (.string s) (some (.int .i64 1)) none none).run Tryd.prog w = .ok (.string ⟨(s.data.toList.drop 1).toArray⟩) w := tail_at s 1 w (by omega)
    have hcons : s.data.toList = 45 :: s.data.toList.drop 1 := by
      cases e : s.data.toList with
      | nil => exact absurd e hnil
      | cons a b =>
        rw [e] at hh
        rw [Option.some.inj hh]
        rfl
    have HCA : candR s.data.toList = (mcandR (s.data.toList.drop 1)).map fun m => m + 9223372036854775808 := by
      unfold candR bare
      rw [if_neg hnan, if_pos hh]
      simp only [hh, if_true]
    obtain ⟨t, ht⟩ : ∃ t : ByteArray, t = ⟨(s.data.toList.drop 1).toArray⟩ := ⟨_, rfl⟩
    have hT : t.data.toList = s.data.toList.drop 1 := by rw [ht]
    rw [← ht] at hsl
    rw [← hT] at HCA hcons
    have htl : t.data.toList.length ≤ 140737488355328 := by
      rw [hT, List.length_drop]
      omega
    by_cases hz : t.data.toList = [48]
    · rw [hz] at hcons
      exact lit_of hcons (parse_lit_zn w)
    by_cases hi : t.data.toList = [105, 110, 102]
    · rw [hi] at hcons
      exact lit_of hcons (parse_lit_inn w)
    have hz' : (t.toList == [48]) = false := beq_eq_false_iff_ne.2 (by rw [Lib.toList_data]; exact hz)
    have hi' : (t.toList == [105, 110, 102]) = false := beq_eq_false_iff_ne.2 (by rw [Lib.toList_data]; exact hi)
    by_cases hM : 3 < t.data.toList.length ∧ t.data.toList.length < 40 ∧ t.data.toList.take 2 = [48, 120]
    · rw [takeM hM] at HCA
      by_cases h46 : t.data.toList.getD 3 0 = 46
      · exact parse_man4_n s w hn d0 d0n t hi0 hsl hz' hi' ⟨hM.1, hM.2.1⟩ hM.2.2 h46 ⟨HCA⟩
      · exact parse_man3_n s w hn d0 d0n t hi0 hsl hz' hi' ⟨hM.1, hM.2.1⟩ hM.2.2 h46 ⟨HCA⟩
    · rw [take3 hz hi hM] at HCA
      by_cases h3 : t.data.toList.length ≤ 3
      · exact parse_short_n s w hn d0 d0n t hi0 hsl hz' hi' h3 ⟨HCA⟩
      · by_cases h4 : 40 ≤ t.data.toList.length
        · exact parse_long_n s w hn d0 d0n t hi0 hsl hz' hi' h4 htl ⟨HCA⟩
        · exact parse_other_n s w hn d0 d0n t hi0 hsl hz' hi' ⟨by omega, by omega⟩ (fun h => hM ⟨by omega, by omega, h⟩) ⟨HCA⟩
  · have hi0 := idx0 s w hl
    have d45 : (((s.data.toList.getD 0 0).toNat : Int) == 45) = false := beq_eq_false_iff_ne.2 (ne45 h45)
    have hh45 : s.data.toList.head? ≠ some 45 := fun h => by
      rw [hh] at h
      exact h45 (Option.some.inj h)
    have HCA : candR s.data.toList = (mcandR s.data.toList).map fun m => m := by
      unfold candR bare
      rw [if_neg hnan, if_neg hh45]
      simp only [hh45, if_false]
    by_cases hz : s.data.toList = [48]
    · exact lit_of hz (parse_lit_zp w)
    by_cases hi : s.data.toList = [105, 110, 102]
    · exact lit_of hi (parse_lit_ip w)
    have hz' : (s.toList == [48]) = false := beq_eq_false_iff_ne.2 (by rw [Lib.toList_data]; exact hz)
    have hi' : (s.toList == [105, 110, 102]) = false := beq_eq_false_iff_ne.2 (by rw [Lib.toList_data]; exact hi)
    by_cases hM : 3 < s.data.toList.length ∧ s.data.toList.length < 40 ∧ s.data.toList.take 2 = [48, 120]
    · rw [takeM hM] at HCA
      by_cases h46 : s.data.toList.getD 3 0 = 46
      · exact parse_man4_p s w hn d0 d0n _ hi0 d45 hz' hi' ⟨hM.1, hM.2.1⟩ hM.2.2 h46 ⟨HCA⟩
      · exact parse_man3_p s w hn d0 d0n _ hi0 d45 hz' hi' ⟨hM.1, hM.2.1⟩ hM.2.2 h46 ⟨HCA⟩
    · rw [take3 hz hi hM] at HCA
      by_cases h3 : s.data.toList.length ≤ 3
      · exact parse_short_p s w hn d0 d0n _ hi0 d45 hz' hi' h3 ⟨HCA⟩
      · by_cases h4 : 40 ≤ s.data.toList.length
        · exact parse_long_p s w hn d0 d0n _ hi0 d45 hz' hi' h4 (by omega) ⟨HCA⟩
        · exact parse_other_p s w hn d0 d0n _ hi0 d45 hz' hi' ⟨by omega, by omega⟩ (fun h => hM ⟨by omega, by omega, h⟩) ⟨HCA⟩
end Go.Proofs.YtjaeligjcgjamaaDoor.DRefParse
