/- What real.Parse answers: the float whose text it is, or the error. -/
import Derived.Test.YtjaeligjcgjamaaDoorDTextW
namespace Go.Proofs.YtjaeligjcgjamaaDoor.DParseW
open Go.RowKit Go.Proofs.YtjaeligjcgjamaaDoor.PRealOrder Go.Proofs.YtjaeligjcgjamaaDoorW.PrintWords Go.Proofs.YtjaeligjcgjamaaDoorW.PrintLast Go.Proofs.YtjaeligjcgjamaaDoorW.PrintMore Go.Proofs.YtjaeligjcgjamaaDoor.Aid Go.Proofs.YtjaeligjcgjamaaDoor.FloatPlain Go.Proofs.YtjaeligjcgjamaaDoor.DRealPure Go.Proofs.YtjaeligjcgjamaaDoor.DRealFl Go.Proofs.YtjaeligjcgjamaaDoor.DRealAr Go.Proofs.YtjaeligjcgjamaaDoor.DRealPick Go.Proofs.YtjaeligjcgjamaaDoor.DHex Go.Proofs.YtjaeligjcgjamaaDoor.DUnhex Go.Proofs.YtjaeligjcgjamaaDoor.DUnhexAny Go.Proofs.YtjaeligjcgjamaaDoor.DWorks Go.Proofs.YtjaeligjcgjamaaDoor.DTxt Go.Proofs.YtjaeligjcgjamaaDoor.DTextW
set_option linter.unusedVariables false
set_option linter.unusedSimpArgs false
/-- strconv.ParseUint at base 16, of few bytes: the number, or 0 and an error. -/
theorem pub_any (s : ByteArray) (h0 : 0 < s.size) (h1 : s.size ≤ 15) (w : World) (hv : Vars w) :
    Calls Tryd.prog 38 #[.string s, .int .i64 16, .int .i64 64] w fun e w' => ((AllHex s.data.toList ∧ e = .returned (.tuple #[.int .u64 (hval s.data.toList : Nat), .nilIface])) ∨ ((¬ AllHex s.data.toList) ∧ ∃ N, e = .returned (.tuple #[.int .u64 0, .iface 104 (.pointer (some ⟨N, 0, none⟩))]))) ∧ Below w.heap.size w w' := by
  have HV := Aside0.mk hv
  clear hv
  go_enter Tryd.func38, Tryd.ntmps38
  go_wp2_with fail
  refine (parse_any s h0 h1 w).mono ?_
  rintro e w1 ⟨h, hB⟩
  have HB := Aside0.mk hB
  clear hB
  rcases h with ⟨hx, rfl⟩ | ⟨hx, rfl⟩
  · have HX := Aside0.mk hx
    clear hx
    go_wp2_with fail
    go_ret2
    exact ⟨.inl ⟨HX.out, rfl⟩, HB.out⟩
  · have HX := Aside0.mk hx
    clear hx
    obtain ⟨tp, p, hc⟩ := (HV.out.keep HB.out).s
    have HC := Aside0.mk hc
    clear hc
    go_wp2_with fail
    refine (Tryd.strconv_toError_syntax _ s 16 64 _ w1 (by omega) HC.out (.inr ⟨tp, p, rfl⟩)).mono ?_
    rintro e w2 ⟨N, rfl, _, _, hB2⟩
    have HB2 := Aside0.mk (below_step HB.out hB2)
    clear hB2 HB
    go_wp2_with fail
    go_ret2
    exact ⟨.inr ⟨HX.out, N, rfl⟩, HB2.out⟩
theorem cut_le (l : List UInt8) (c : UInt8) : (cutL l c).1.length ≤ l.length ∧ (cutL l c).2.1.length ≤ l.length := by
  unfold cutL
  split
  · exact ⟨by rw [List.length_take]; exact Nat.min_le_right _ _, by rw [List.length_drop]; exact Nat.sub_le _ _⟩
  · exact ⟨Nat.le_refl _, by simp⟩
theorem or_add {x r : Nat} (hx : x < 2048) (hr : r < 4503599627370496) : Go.bits .or .u64 ((x : Int) * 4503599627370496) (r : Int) = ((x * 4503599627370496 + r : Nat) : Int) := by
  have h1 := u64_or_nat (x * 4503599627370496) r (by omega) (by omega)
  have e1 : ((x * 4503599627370496 : Nat) : Int) = (x : Int) * 4503599627370496 := by omega
  rw [e1] at h1
  rw [h1]
  have e2 : x * 4503599627370496 = 2 ^ 52 * x := by
    have : (2 : Nat) ^ 52 = 4503599627370496 := by decide
    rw [this, Nat.mul_comm]
  rw [e2, ← Nat.two_pow_add_eq_or_of_lt (by have : (2 : Nat) ^ 52 = 4503599627370496 := by decide
                                            omega) x]
/-- What real.number answers. -/
def NumPost (s : ByteArray) (w : World) (e : Ending) (w' : World) : Prop := e = .returned (.tuple #[.int .u64 (((numL s.data.toList).getD 0 : Nat) : Int), .bool (numL s.data.toList).isSome]) ∧ Below w.heap.size w w'
set_option maxHeartbeats 3200000 in
set_option maxRecDepth 100000 in
theorem number_calls (s : ByteArray) (hb : s.size ≤ 140737488355328) (w : World) (hv : Vars w) : Calls Tryd.prog 21 #[.string s] w (NumPost s w) := by
  have HV := Aside0.mk hv
  obtain ⟨H, T, b, hC⟩ : ∃ H T b, cutL s.data.toList 112 = (H, T, b) := ⟨_, _, _, rfl⟩
  obtain ⟨D, G, b2, hC2⟩ : ∃ D G b2, cutL H 46 = (D, G, b2) := ⟨_, _, _, rfl⟩
  have hl := cut_le s.data.toList 112
  rw [hC, ← Lib.size_eq] at hl
  have hl2 := cut_le H 46
  rw [hC2] at hl2
  obtain ⟨hH, hT⟩ := hl
  obtain ⟨hD, hG⟩ := hl2
  have hN : numL s.data.toList = if b = true then (match Lib.atoiAll T with
    | .ok e => if G.length ≤ 13 ∧ -1022 ≤ e ∧ e ≤ 1023 ∧ AllHex G then some (if D = [48] then hval (G ++ List.replicate (13 - G.length) 48) else (e + 1023).toNat * 4503599627370496 + hval (G ++ List.replicate (13 - G.length) 48)) else none
    | _ => none) else none := by
    unfold numL
    rw [hC]
    simp only
    rw [hC2]
    rfl
  have HN := Aside0.mk hN
  have HC := Aside0.mk hC
  have HC2 := Aside0.mk hC2
  have HG := Aside0.mk (show G.length ≤ 140737488355328 by simp only at *; omega)
  have HHs := Aside0.mk (show (⟨H.toArray⟩ : ByteArray).size ≤ 140737488355328 by rw [Lib.size_mk]; simp only at *; omega)
  have HTs := Aside0.mk (show (⟨T.toArray⟩ : ByteArray).size ≤ 140737488355328 by rw [Lib.size_mk]; simp only at *; omega)
  have HS := Aside0.mk hb
  clear hv hN hC hC2 hH hT hD hG hb
  go_enter Tryd.func21, Tryd.ntmps21
  go_wp2_with fail
  refine (cut_calls s 112 HS.out w).mono ?_
  rw [HC.out]
  rintro e w1 ⟨rfl, n1, hw⟩
  have HB1 : Aside0 (Below w.heap.size w w1) := ⟨by rw [hw]; exact pw_below_drewN (Below.refl _ _) n1⟩
  clear hw
  go_wp2_with fail
  refine (cut_calls ⟨H.toArray⟩ 46 HHs.out w1).mono ?_
  rw [show (⟨H.toArray⟩ : ByteArray).data.toList = H by simp, HC2.out]
  rintro e w2 ⟨rfl, n2, hw⟩
  have HB2 : Aside0 (Below w.heap.size w w2) := ⟨by rw [hw]; exact pw_below_drewN HB1.out n2⟩
  clear hw HB1
  go_wp2_with fail
  have hTT : (⟨T.toArray⟩ : ByteArray).data.toList = T := by simp
  have HNone : Aside0 (∀ w', Below w.heap.size w w' → numL s.data.toList = none → NumPost s w (.returned (.tuple #[.int .u64 0, .bool false])) w') := ⟨fun w' h1 h2 => by
    unfold NumPost
    rw [h2]
    exact ⟨rfl, h1⟩⟩
  cases hA : Lib.atoiAll T
  rotate_left
  · obtain ⟨tp, p, hc⟩ := (HV.out.keep HB2.out).s
    have HCE := Aside0.mk hc
    have HNN : Aside0 (numL s.data.toList = none) := ⟨by rw [HN.out, hA]; simp⟩
    clear hc HN
    refine (Tryd.strconv_Atoi_syntax ⟨T.toArray⟩ (by have := HTs.out; omega) (by rw [hTT]; exact hA.trans rfl) _ w2 HCE.out (.inr ⟨tp, p, rfl⟩)).mono ?_
    rintro e w3 ⟨N, rfl, _, _, hB⟩
    have HB3 := Aside0.mk (below_step HB2.out hB)
    clear hB HB2 hA hTT HCE
    cases b
    · go_wp2_with fail
      go_ret2
      exact HNone.out _ HB3.out HNN.out
    · go_wp2_with fail
      go_ret2
      exact HNone.out _ HB3.out HNN.out
  · obtain ⟨tp, p, hc⟩ := (HV.out.keep HB2.out).r
    have HCE := Aside0.mk hc
    have HNN : Aside0 (numL s.data.toList = none) := ⟨by rw [HN.out, hA]; simp⟩
    clear hc HN
    refine (Tryd.strconv_Atoi_range ⟨T.toArray⟩ (by have := HTs.out; omega) (by rw [hTT]; exact hA) _ w2 HCE.out (.inr ⟨tp, p, rfl⟩)).mono ?_
    rintro e w3 ⟨N, rfl, _, _, hB⟩
    have HB3 := Aside0.mk (below_step HB2.out hB)
    clear hB HB2 hA hTT HCE
    cases b
    · go_wp2_with fail
      go_ret2
      exact HNone.out _ HB3.out HNN.out
    · go_wp2_with fail
      go_ret2
      exact HNone.out _ HB3.out HNN.out
  · rename_i v
    rw [hA] at HN
    refine (Tryd.strconv_Atoi_ok ⟨T.toArray⟩ (by have := HTs.out; omega) v (by rw [hTT]; exact hA) w2).mono ?_
    rintro e w3 ⟨rfl, hw⟩
    have HB3 : Aside0 (Below w.heap.size w w3) := ⟨by
      rcases hw with rfl | ⟨t, rfl⟩
      · exact HB2.out
      · exact below_step HB2.out (Lib.bytesWorld_below _ _ _)⟩
    clear hw HB2 hA hTT
    cases b
    · have HNN : Aside0 (numL s.data.toList = none) := ⟨by rw [HN.out]; simp⟩
      clear HN
      go_wp2_with fail
      go_ret2
      exact HNone.out _ HB3.out HNN.out
    · simp only [if_true] at HN
      have hGs : (⟨G.toArray⟩ : ByteArray).size = G.length := Lib.size_mk G
      by_cases hg : G.length ≤ 13
      rotate_left
      · have HNN : Aside0 (numL s.data.toList = none) := ⟨by rw [HN.out, if_neg (fun h => hg h.1)]⟩
        have d1 : decide ((13 : Int) < (G.length : Int)) = true := decide_eq_true (by omega)
        have d2 : decide (13 < G.length) = true := decide_eq_true (by omega)
        clear HN hg
        go_wp2_with fail
        go_ret2
        exact HNone.out _ HB3.out HNN.out
      · have d1 : decide ((13 : Int) < (G.length : Int)) = false := decide_eq_false (by omega)
        have d2 : decide (13 < G.length) = false := decide_eq_false (by omega)
        by_cases h0 : v < -1022
        · have HNN : Aside0 (numL s.data.toList = none) := ⟨by rw [HN.out, if_neg (fun h => by have := h.2.1; omega)]⟩
          have d3 : decide (v < -1022) = true := decide_eq_true h0
          clear HN hg h0
          go_wp2_with fail
          go_ret2
          exact HNone.out _ HB3.out HNN.out
        · have d3 : decide (v < -1022) = false := decide_eq_false h0
          by_cases h1 : 1023 < v
          · have HNN : Aside0 (numL s.data.toList = none) := ⟨by rw [HN.out, if_neg (fun h => by have := h.2.2.1; omega)]⟩
            have d4 : decide (1023 < v) = true := decide_eq_true h1
            clear HN hg h0 h1
            go_wp2_with fail
            go_ret2
            exact HNone.out _ HB3.out HNN.out
          · have d4 : decide (1023 < v) = false := decide_eq_false h1
            have HVB := Aside0.mk (show -1022 ≤ v ∧ v ≤ 1023 by omega)
            have HGL := Aside0.mk hg
            have ej : IntKind.i64.wrap (13 - (G.length : Int)) = ((13 - G.length : Nat) : Int) := by
              rw [i64_w, w64 (by omega) (by omega)]
              omega
            have hc1 : ¬ (9223372036854775807 < 1 + G.length) := by omega
            clear hg h0 h1
            go_wp2_with fail
            refine (Tryd.strings_Repeat ⟨#[48]⟩ (13 - G.length) w3 (by omega) (by show 1 * (13 - G.length) ≤ _; omega)).mono ?_
            rintro e w4 ⟨rfl, hB⟩
            have HB4 := Aside0.mk (below_step HB3.out hB)
            clear hB HB3 ej
            have eR : (Lib.repeatL (⟨#[48]⟩ : ByteArray).data.toList (13 - G.length)) = List.replicate (13 - G.length) 48 := by
              have := Lib.repeatL_replicate 48 1 (13 - G.length)
              rw [Nat.mul_one] at this
              exact this
            rw [eR]
            have hRz : (⟨(List.replicate (13 - G.length) (48 : UInt8)).toArray⟩ : ByteArray).size = 13 - G.length := by
              rw [Lib.size_mk, List.length_replicate]
            have eQ : (⟨#[48]⟩ : ByteArray) ++ ⟨G.toArray⟩ ++ ⟨(List.replicate (13 - G.length) (48 : UInt8)).toArray⟩ = ⟨(48 :: (G ++ List.replicate (13 - G.length) 48)).toArray⟩ := by
              rw [show (⟨#[48]⟩ : ByteArray) = ⟨[48].toArray⟩ from rfl, ba_app, ba_app]
              simp
            generalize (⟨(List.replicate (13 - G.length) (48 : UInt8)).toArray⟩ : ByteArray) = R at *
            obtain ⟨QL, hQL⟩ : ∃ QL, 48 :: (G ++ List.replicate (13 - G.length) 48) = QL := ⟨_, rfl⟩
            have hQz : (⟨QL.toArray⟩ : ByteArray).size = QL.length := Lib.size_mk _
            have hQn : QL.length = 14 := by
              have := HGL.out
              rw [← hQL]
              simp
              omega
            have hQh : AllHex QL ↔ AllHex G := by
              rw [← hQL]
              constructor
              · intro h c hc
                exact h c (List.mem_cons_of_mem _ (List.mem_append_left _ hc))
              · intro h c hc
                rcases List.mem_cons.1 hc with rfl | hc
                · decide
                · rcases List.mem_append.1 hc with hc | hc
                  · exact h c hc
                  · rw [(List.mem_replicate.1 hc).2]
                    decide
            have hQv : hval QL = hval (G ++ List.replicate (13 - G.length) 48) := by
              rw [← hQL]
              exact hval_zero _
            rw [hQL] at eQ
            rw [← hQv] at HN
            have hc2 : ¬ (9223372036854775807 < 1 + G.length + R.size) := by
              have := HGL.out
              omega
            have hQd : (⟨QL.toArray⟩ : ByteArray).data.toList = QL := by simp
            have HQ1 : Aside0 (0 < (⟨QL.toArray⟩ : ByteArray).size) := ⟨by omega⟩
            have HQ2 : Aside0 ((⟨QL.toArray⟩ : ByteArray).size ≤ 15) := ⟨by omega⟩
            have HQN := Aside0.mk hQn
            have HQH := Aside0.mk hQh
            have HLT : Aside0 (AllHex QL → hval QL < 4503599627370496) := ⟨fun hx => by
              rw [hQv]
              have h2 := hval_lt 13 (G ++ List.replicate (13 - G.length) 48) (by have := HGL.out; rw [List.length_append, List.length_replicate]; omega) fun c hc => by
                rcases List.mem_append.1 hc with hc | hc
                · exact (hQh.1 hx) c hc
                · rw [(List.mem_replicate.1 hc).2]
                  decide
              have h3 : (16 : Nat) ^ 13 = 4503599627370496 := by decide
              omega⟩
            clear hQL hQz hQn hQh hQv eR hRz hQd
            go_wp2_with fail
            refine (pub_any ⟨QL.toArray⟩ HQ1.out HQ2.out w4 (HV.out.keep HB4.out)).mono ?_
            rw [show (⟨QL.toArray⟩ : ByteArray).data.toList = QL by simp]
            rintro e w5 ⟨h, hB⟩
            have HB5 := Aside0.mk (below_step HB4.out hB)
            clear hB HB4 eQ hc2 hc1
            rcases h with ⟨hx, rfl⟩ | ⟨hx, N, rfl⟩
            · have HX := Aside0.mk hx
              have HLV := Aside0.mk (HLT.out hx)
              clear hx HLT
              have HN2 : Aside0 (numL s.data.toList = some (if D = [48] then hval QL else (v + 1023).toNat * 4503599627370496 + hval QL)) := ⟨by
                rw [HN.out, if_pos ⟨HGL.out, HVB.out.1, HVB.out.2, HQH.out.1 HX.out⟩]⟩
              clear HN
              generalize hval QL = r at *
              by_cases hD : D = [48]
              · subst hD
                have HN3 : Aside0 (numL s.data.toList = some r) := ⟨by rw [HN2.out, if_pos rfl]⟩
                clear HN2
                go_wp2_with fail
                go_ret2
                unfold NumPost
                rw [HN3.out]
                exact ⟨rfl, HB5.out⟩
              · have HN3 : Aside0 (numL s.data.toList = some ((v + 1023).toNat * 4503599627370496 + r)) := ⟨by rw [HN2.out, if_neg hD]⟩
                have d5 : (D == [48]) = false := beq_eq_false_iff_ne.2 hD
                have hor := or_add (x := (v + 1023).toNat) (r := r) (by have := HVB.out; omega) HLV.out
                have ev : (((v + 1023).toNat : Nat) : Int) = v + 1023 := by have := HVB.out; omega
                rw [ev] at hor
                generalize (v + 1023).toNat * 4503599627370496 + r = Y at hor HN3
                have e1 : IntKind.i64.wrap (v + 1023) = v + 1023 := (i64_w _).trans (w64 (by have := HVB.out; omega) (by have := HVB.out; omega))
                have e2 : IntKind.u64.wrap (v + 1023) = v + 1023 := by
                  rw [u64w]
                  have := HVB.out
                  omega
                have e3 : IntKind.u64.wrap ((v + 1023) * 4503599627370496) = (v + 1023) * 4503599627370496 := by
                  rw [u64w]
                  have := HVB.out
                  omega
                clear HN2 hD ev
                go_wp2_with fail
                go_ret2
                unfold NumPost
                rw [HN3.out]
                exact ⟨rfl, HB5.out⟩
            · have HX := Aside0.mk hx
              clear hx HLT
              have HNN : Aside0 (numL s.data.toList = none) := ⟨by rw [HN.out, if_neg (fun h => HX.out (HQH.out.2 h.2.2.2))]⟩
              clear HN
              go_wp2_with fail
              go_ret2
              exact HNone.out _ HB5.out HNN.out
theorem or_inf (m : Nat) (h : m ≤ 9218868437227405312) : Go.bits .or .u64 (m : Int) 9223372036854775808 = ((m + 9223372036854775808 : Nat) : Int) := by
  have h1 := u64_or_nat m 9223372036854775808 (by omega) (by omega)
  refine h1.trans ?_
  have e : (2 : Nat) ^ 63 = 9223372036854775808 := by decide
  have := Nat.two_pow_add_eq_or_of_lt (i := 63) (b := m) (by omega) 1
  rw [e, Nat.mul_one] at this
  rw [Nat.or_comm, ← this]
  omega
/-- real.Parse's answer. -/
def ParsePost (s : ByteArray) (w : World) (e : Ending) (w' : World) : Prop := (∃ (v : Nat) (er : Int), Ans s.data.toList v er ∧ e = .returned (.tuple #[.int .u64 v, .int .i64 er])) ∧ Below w.heap.size w w'
set_option maxHeartbeats 3200000 in
set_option maxRecDepth 100000 in
theorem parse_calls (s : ByteArray) (hb : s.size ≤ 140737488355328) (w : World) (hv : Vars w) : Calls Tryd.prog 9 #[.string s] w (ParsePost s w) := by
  have HV := Aside0.mk hv
  have HS := Aside0.mk hb
  clear hv hb
  by_cases hn : s.data.toList = [110, 97, 110]
  · have hs : s = ⟨#[110, 97, 110]⟩ := (ba_eq hn).symm
    subst hs
    go_enter Tryd.func9, Tryd.ntmps9
    go_wp2_with fail
    go_ret2
    exact ⟨⟨9221120237041090560, 0, .inl ⟨⟨by decide, fun _ => rfl⟩, by decide, rfl⟩, rfl⟩, Below.refl _ _⟩
  · have HCA : Aside0 (cand s.data.toList = (mcand (Lib.trimPrefix s.data.toList [45])).map fun m => if Lib.hasPrefix s.data.toList [45] = true then m + 9223372036854775808 else m) := ⟨by
      unfold cand
      rw [if_neg hn]⟩
    have HTL : Aside0 ((Lib.trimPrefix s.data.toList [45]).length ≤ 140737488355328) := ⟨by
      have h1 := Lib.trimPrefix_le s.data.toList [45]
      have h2 := HS.out
      rw [Lib.size_eq] at h2
      omega⟩
    -- leaves
    have d0 : (s.toList == [110, 97, 110]) = false := beq_eq_false_iff_ne.2 (by rw [Lib.toList_data]; exact hn)
    go_enter Tryd.func9, Tryd.ntmps9
    go_wp2_with fail
    refine (Tryd.strings_CutPrefix _ _ w).mono ?_
    rw [show (⟨#[45]⟩ : ByteArray).data.toList = [45] from rfl]
    rintro e w1 ⟨rfl, rfl⟩
    have HTT : Aside0 (s.toList = s.data.toList) := ⟨Lib.toList_data s⟩
    generalize Lib.trimPrefix s.data.toList [45] = T at *
    generalize Lib.hasPrefix s.data.toList [45] = m at *
    obtain ⟨l, hl⟩ : ∃ l, s.data.toList = l := ⟨_, rfl⟩
    have HL := Aside0.mk hl
    rw [hl] at HCA HTT
    have HPP : Aside0 (∀ e w', ((∃ (v : Nat) (er : Int), Ans l v er ∧ e = .returned (.tuple #[.int .u64 v, .int .i64 er])) ∧ Below w1.heap.size w1 w') → ParsePost s w1 e w') := ⟨fun e w' h => by
      unfold ParsePost
      rw [HL.out]
      exact h⟩
    clear hl hn
    have HB0 : Aside0 (Below w1.heap.size w1 w1) := ⟨Below.refl _ _⟩
    by_cases hi : T = [105, 110, 102]
    · subst hi
      cases m
      · have HC : Aside0 (cand l = some 9218868437227405312) := ⟨by rw [HCA.out]; rfl⟩
        clear HCA
        go_wp2_with fail
        refine (text_calls 9218868437227405312 (by omega) w1 (HV.out.keep HB0.out)).mono ?_
        rintro e w9 ⟨rfl, hB⟩
        have HB9 := Aside0.mk (below_step HB0.out hB)
        clear hB HB0
        by_cases ht : txt 9218868437227405312 = l
        · have d7 : (txt 9218868437227405312 == s.toList) = true := by rw [HTT.out, ht]; exact beq_self_eq_true _
          have d8 : (txt 9218868437227405312 != s.toList) = false := by rw [bne, d7]; rfl
          have HT := Aside0.mk ht
          clear ht
          go_wp2_with fail
          go_ret2
          exact HPP.out _ _ ⟨⟨9218868437227405312, 0, ans_some HC.out HT.out, rfl⟩, HB9.out⟩
        · have d7 : (txt 9218868437227405312 == s.toList) = false := by rw [HTT.out]; exact beq_eq_false_iff_ne.2 ht
          have d8 : (txt 9218868437227405312 != s.toList) = true := by rw [bne, d7]; rfl
          have HT := Aside0.mk ht
          clear ht
          go_wp2_with fail
          go_ret2
          exact HPP.out _ _ ⟨⟨0, 3, ans_bad HC.out HT.out, rfl⟩, HB9.out⟩
      · have HC : Aside0 (cand l = some 18442240474082181120) := ⟨by rw [HCA.out]; rfl⟩
        have b1 : Go.bits .or .u64 9218868437227405312 9223372036854775808 = 18442240474082181120 := by decide
        clear HCA
        go_wp2_with fail
        refine (text_calls 18442240474082181120 (by omega) w1 (HV.out.keep HB0.out)).mono ?_
        rintro e w9 ⟨rfl, hB⟩
        have HB9 := Aside0.mk (below_step HB0.out hB)
        clear hB HB0
        by_cases ht : txt 18442240474082181120 = l
        · have d7 : (txt 18442240474082181120 == s.toList) = true := by rw [HTT.out, ht]; exact beq_self_eq_true _
          have d8 : (txt 18442240474082181120 != s.toList) = false := by rw [bne, d7]; rfl
          have HT := Aside0.mk ht
          clear ht
          go_wp2_with fail
          go_ret2
          exact HPP.out _ _ ⟨⟨18442240474082181120, 0, ans_some HC.out HT.out, rfl⟩, HB9.out⟩
        · have d7 : (txt 18442240474082181120 == s.toList) = false := by rw [HTT.out]; exact beq_eq_false_iff_ne.2 ht
          have d8 : (txt 18442240474082181120 != s.toList) = true := by rw [bne, d7]; rfl
          have HT := Aside0.mk ht
          clear ht
          go_wp2_with fail
          go_ret2
          exact HPP.out _ _ ⟨⟨0, 3, ans_bad HC.out HT.out, rfl⟩, HB9.out⟩
    · have d1 : (T == [105, 110, 102]) = false := beq_eq_false_iff_ne.2 hi
      by_cases hz : T = [48]
      · subst hz
        cases m
        · have HC : Aside0 (cand l = some 0) := ⟨by rw [HCA.out]; rfl⟩
          clear HCA hi
          go_wp2_with fail
          refine (text_calls 0 (by omega) w1 (HV.out.keep HB0.out)).mono ?_
          rintro e w9 ⟨rfl, hB⟩
          have HB9 := Aside0.mk (below_step HB0.out hB)
          clear hB HB0
          by_cases ht : txt 0 = l
          · have d7 : (txt 0 == s.toList) = true := by rw [HTT.out, ht]; exact beq_self_eq_true _
            have d8 : (txt 0 != s.toList) = false := by rw [bne, d7]; rfl
            have HT := Aside0.mk ht
            clear ht
            go_wp2_with fail
            go_ret2
            exact HPP.out _ _ ⟨⟨0, 0, ans_some HC.out HT.out, rfl⟩, HB9.out⟩
          · have d7 : (txt 0 == s.toList) = false := by rw [HTT.out]; exact beq_eq_false_iff_ne.2 ht
            have d8 : (txt 0 != s.toList) = true := by rw [bne, d7]; rfl
            have HT := Aside0.mk ht
            clear ht
            go_wp2_with fail
            go_ret2
            exact HPP.out _ _ ⟨⟨0, 3, ans_bad HC.out HT.out, rfl⟩, HB9.out⟩
        · have HC : Aside0 (cand l = some 9223372036854775808) := ⟨by rw [HCA.out]; rfl⟩
          have b1 : Go.bits .or .u64 0 9223372036854775808 = 9223372036854775808 := by decide
          clear HCA hi
          go_wp2_with fail
          refine (text_calls 9223372036854775808 (by omega) w1 (HV.out.keep HB0.out)).mono ?_
          rintro e w9 ⟨rfl, hB⟩
          have HB9 := Aside0.mk (below_step HB0.out hB)
          clear hB HB0
          by_cases ht : txt 9223372036854775808 = l
          · have d7 : (txt 9223372036854775808 == s.toList) = true := by rw [HTT.out, ht]; exact beq_self_eq_true _
            have d8 : (txt 9223372036854775808 != s.toList) = false := by rw [bne, d7]; rfl
            have HT := Aside0.mk ht
            clear ht
            go_wp2_with fail
            go_ret2
            exact HPP.out _ _ ⟨⟨9223372036854775808, 0, ans_some HC.out HT.out, rfl⟩, HB9.out⟩
          · have d7 : (txt 9223372036854775808 == s.toList) = false := by rw [HTT.out]; exact beq_eq_false_iff_ne.2 ht
            have d8 : (txt 9223372036854775808 != s.toList) = true := by rw [bne, d7]; rfl
            have HT := Aside0.mk ht
            clear ht
            go_wp2_with fail
            go_ret2
            exact HPP.out _ _ ⟨⟨0, 3, ans_bad HC.out HT.out, rfl⟩, HB9.out⟩
      · have d2 : (T == [48]) = false := beq_eq_false_iff_ne.2 hz
        have d3 : (T != [48]) = true := by rw [bne, d2]; rfl
        have HMC : Aside0 (mcand T = if Lib.hasPrefix T [48, 120] = true then numL (Lib.trimPrefix T [48, 120]) else none) := ⟨by
          unfold mcand
          rw [if_neg hi, if_neg hz]⟩
        have HUL : Aside0 ((⟨(Lib.trimPrefix T [48, 120]).toArray⟩ : ByteArray).size ≤ 140737488355328) := ⟨by
          rw [Lib.size_mk]
          have h1 := Lib.trimPrefix_le T [48, 120]
          have h2 := HTL.out
          omega⟩
        clear hi hz
        go_wp2_with fail
        refine (Tryd.strings_CutPrefix ⟨T.toArray⟩ ⟨#[48, 120]⟩ w1).mono ?_
        rw [show (⟨#[48, 120]⟩ : ByteArray).data.toList = [48, 120] from rfl, show (⟨T.toArray⟩ : ByteArray).data.toList = T by simp]
        rintro e w2 ⟨rfl, rfl⟩
        generalize Lib.trimPrefix T [48, 120] = U at *
        generalize Lib.hasPrefix T [48, 120] = x at *
        go_wp2_with fail
        refine (number_calls ⟨U.toArray⟩ HUL.out w2 HV.out).mono ?_
        unfold NumPost
        rw [show (⟨U.toArray⟩ : ByteArray).data.toList = U by simp]
        rintro e w3 ⟨rfl, hB⟩
        have HB3 := Aside0.mk hB
        clear hB HB0 HUL
        cases hU : numL U with
        | none =>
          have HC : Aside0 (cand l = none) := ⟨by
            rw [HCA.out, HMC.out, hU]
            cases x <;> rfl⟩
          simp only [Option.getD_none, Option.isSome_none]
          have b1 : Go.bits .or .u64 0 9223372036854775808 = 9223372036854775808 := by decide
          clear HCA HMC hU
          cases x <;> cases m
          ·
            go_wp2_with fail
            go_ret2
            exact HPP.out _ _ ⟨⟨0, 3, ans_none HC.out, rfl⟩, HB3.out⟩
          ·
            go_wp2_with fail
            go_ret2
            exact HPP.out _ _ ⟨⟨0, 3, ans_none HC.out, rfl⟩, HB3.out⟩
          ·
            go_wp2_with fail
            go_ret2
            exact HPP.out _ _ ⟨⟨0, 3, ans_none HC.out, rfl⟩, HB3.out⟩
          ·
            go_wp2_with fail
            go_ret2
            exact HPP.out _ _ ⟨⟨0, 3, ans_none HC.out, rfl⟩, HB3.out⟩
        | some v =>
          have HVL := Aside0.mk (numL_lt hU)
          simp only [Option.getD_some, Option.isSome_some]
          cases x
          · have HC : Aside0 (cand l = none) := ⟨by
              rw [HCA.out, HMC.out]
              rfl⟩
            clear HCA HMC hU
            cases m
            ·
              go_wp2_with fail
              go_ret2
              exact HPP.out _ _ ⟨⟨0, 3, ans_none HC.out, rfl⟩, HB3.out⟩
            ·
              go_wp2_with fail
              go_ret2
              exact HPP.out _ _ ⟨⟨0, 3, ans_none HC.out, rfl⟩, HB3.out⟩
          · cases m
            · have HC : Aside0 (cand l = some v) := ⟨by
                rw [HCA.out, HMC.out, if_pos rfl, hU]
                rfl⟩
              clear HCA HMC hU
              go_wp2_with fail
              refine (text_calls v (by have := HVL.out; omega) w3 (HV.out.keep HB3.out)).mono ?_
              rintro e w9 ⟨rfl, hB⟩
              have HB9 := Aside0.mk (below_step HB3.out hB)
              clear hB HB3
              by_cases ht : txt v = l
              · have d7 : (txt v == s.toList) = true := by rw [HTT.out, ht]; exact beq_self_eq_true _
                have d8 : (txt v != s.toList) = false := by rw [bne, d7]; rfl
                have HT := Aside0.mk ht
                clear ht
                go_wp2_with fail
                go_ret2
                exact HPP.out _ _ ⟨⟨v, 0, ans_some HC.out HT.out, rfl⟩, HB9.out⟩
              · have d7 : (txt v == s.toList) = false := by rw [HTT.out]; exact beq_eq_false_iff_ne.2 ht
                have d8 : (txt v != s.toList) = true := by rw [bne, d7]; rfl
                have HT := Aside0.mk ht
                clear ht
                go_wp2_with fail
                go_ret2
                exact HPP.out _ _ ⟨⟨0, 3, ans_bad HC.out HT.out, rfl⟩, HB9.out⟩
            · have HC : Aside0 (cand l = some (v + 9223372036854775808)) := ⟨by
                rw [HCA.out, HMC.out, if_pos rfl, hU]
                rfl⟩
              have b2 := or_inf v (by have := HVL.out; omega)
              have HY : Aside0 (v + 9223372036854775808 < 18446744073709551616) := ⟨by have := HVL.out; omega⟩
              clear HCA HMC hU
              generalize v + 9223372036854775808 = Y at *
              go_wp2_with fail
              refine (text_calls Y (by have := HY.out; omega) w3 (HV.out.keep HB3.out)).mono ?_
              rintro e w9 ⟨rfl, hB⟩
              have HB9 := Aside0.mk (below_step HB3.out hB)
              clear hB HB3
              by_cases ht : txt Y = l
              · have d7 : (txt Y == s.toList) = true := by rw [HTT.out, ht]; exact beq_self_eq_true _
                have d8 : (txt Y != s.toList) = false := by rw [bne, d7]; rfl
                have HT := Aside0.mk ht
                clear ht
                go_wp2_with fail
                go_ret2
                exact HPP.out _ _ ⟨⟨Y, 0, ans_some HC.out HT.out, rfl⟩, HB9.out⟩
              · have d7 : (txt Y == s.toList) = false := by rw [HTT.out]; exact beq_eq_false_iff_ne.2 ht
                have d8 : (txt Y != s.toList) = true := by rw [bne, d7]; rfl
                have HT := Aside0.mk ht
                clear ht
                go_wp2_with fail
                go_ret2
                exact HPP.out _ _ ⟨⟨0, 3, ans_bad HC.out HT.out, rfl⟩, HB9.out⟩
end Go.Proofs.YtjaeligjcgjamaaDoor.DParseW
