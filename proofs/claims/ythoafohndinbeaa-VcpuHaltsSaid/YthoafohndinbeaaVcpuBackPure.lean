/- There and back: the bytes of a right context are read as it; bytes that are a context are the bytes of it; traps keep contexts right: plain law. -/
import Derived.Test.YthoafohndinbeaaVcpuDecR
import Derived.Test.YthoafohndinbeaaVcpuEnter
import Derived.Test.YthoafohndinbeaaVcpuWants
namespace Go.Proofs.Ythoafohndinbeaa.VcpuBackPure
open Go.RowKit Go.Proofs.YthoafohndinbeaaW.PrintWords Go.Proofs.Ythoafohndinbeaa.Aid Go.Proofs.Ythoafohndinbeaa.VcpuBase Go.Proofs.Ythoafohndinbeaa.VcpuCheck Go.Proofs.Ythoafohndinbeaa.VcpuEq Go.Proofs.Ythoafohndinbeaa.VcpuPut Go.Proofs.Ythoafohndinbeaa.VcpuEnc Go.Proofs.Ythoafohndinbeaa.VcpuREnc Go.Proofs.Ythoafohndinbeaa.VcpuDec Go.Proofs.Ythoafohndinbeaa.VcpuDecR Go.Proofs.Ythoafohndinbeaa.VcpuEnter
open Go.Proofs.Ythoafohndinbeaa.VcpuWants (canB)
set_option maxRecDepth 100000
theorem bs_cons (n : Int) (m : Nat) : bs n (m + 1) = (n % 256) :: bs (n / 256) m := by
  unfold bs
  rw [List.range_succ_eq_map, List.map_cons, List.map_map]
  congr 1
  · rw [Int.pow_zero, Int.ediv_one]
  · refine List.map_congr_left fun i _ => ?_
    show n / 256 ^ (i + 1) % 256 = n / 256 / 256 ^ i % 256
    rw [Int.pow_succ, Int.mul_comm, ← Int.ediv_ediv_of_nonneg (by omega)]
theorem val_bs : ∀ (m : Nat) (n : Int), 0 ≤ n → val (bs n m) = n % 256 ^ m
  | 0, n, _ => by
    show (0 : Int) = n % 1
    omega
  | m + 1, n, h => by
    rw [bs_cons]
    show n % 256 + 256 * val (bs (n / 256) m) = _
    rw [val_bs m (n / 256) (by omega), Int.pow_succ, Int.mul_comm (256 ^ m) 256]
    have hp : (0 : Int) < 256 ^ m := Int.pow_pos (by decide)
    obtain ⟨k, rfl⟩ := Int.eq_ofNat_of_zero_le h
    have e := Nat.mod_mul (x := k) (a := 256) (b := 256 ^ m)
    have e2 : ((256 ^ m : Nat) : Int) = (256 : Int) ^ m := by
      rw [Int.natCast_pow]
      rfl
    rw [← e2]
    have e3 := congrArg (fun x : Nat => (x : Int)) e
    simp only [Int.natCast_add, Int.natCast_mul, Int.natCast_emod, Int.natCast_ediv] at e3
    exact e3.symm
theorem bs_val : ∀ (l : List Int), (∀ x ∈ l, 0 ≤ x ∧ x < 256) → bs (val l) l.length = l
  | [], _ => rfl
  | x :: t, h => by
    have hx := h x (by simp)
    rw [List.length_cons, bs_cons]
    show ((x + 256 * val t) % 256) :: bs ((x + 256 * val t) / 256) t.length = x :: t
    rw [show (x + 256 * val t) % 256 = x by omega, show (x + 256 * val t) / 256 = val t by omega, bs_val t fun y hy => h y (by simp [hy])]
theorem drop_len (A X : List Int) (n k : Nat) (h : A.length = n) : (A ++ X).drop (n + k) = X.drop k := by
  subst h
  rw [← List.drop_drop, List.drop_left]
theorem chunk (f : Nat → List Int) (m N i : Nat) (tail : List Int) (h : ∀ j, (f j).length = m) (hi : i < N) : (((List.range N).flatMap f ++ tail).drop (m * i)).take m = f i := by
  obtain ⟨r, rfl⟩ : ∃ r, N = (i + 1) + r := ⟨N - (i + 1), by omega⟩
  rw [List.range_add, List.flatMap_append, flat_snoc, List.append_assoc, List.append_assoc]
  have e := drop_len ((List.range i).flatMap f) (f i ++ ((((List.range r).map fun x => i + 1 + x).flatMap f) ++ tail)) (m * i) 0 (flat_len f m h i)
  rw [Nat.add_zero, List.drop_zero] at e
  rw [e]
  exact List.take_left' (h i)
theorem chunks (X : List Int) (m : Nat) : ∀ N, (List.range N).flatMap (fun i => (X.drop (m * i)).take m) = X.take (m * N)
  | 0 => by simp
  | N + 1 => by
    rw [flat_snoc, chunks X m N, Nat.mul_succ, List.take_add]
theorem flat_congr (f g : Nat → List Int) : ∀ N, (∀ i, i < N → f i = g i) → (List.range N).flatMap f = (List.range N).flatMap g
  | 0, _ => rfl
  | N + 1, h => by rw [flat_snoc, flat_snoc, flat_congr f g N fun i hi => h i (by omega), h N (by omega)]
variable {c : Cx}
theorem enc_len (c : Cx) : (encB c).length = 182 := by
  unfold encB
  simp only [List.length_append, rB_len, fB_len, wB_len]
  rfl
theorem enc_assoc (c : Cx) : encB c = letters ++ (rB c 16 ++ (fB c 8 ++ (wB c 9 ++ [c.ha % 256, idB c.id]))) := by
  unfold encB
  simp only [List.append_assoc]
theorem at_R (h : Wf c) (i : Nat) (hi : i < 16) : at_ (encB c) (16 + 4 * i) 4 = c.R i := by
  unfold at_
  rw [enc_assoc, drop_len letters _ 16 (4 * i) rfl]
  unfold rB
  rw [chunk _ 4 16 i _ (fun _ => bs_length _ _) hi, val_bs 4 _ (h.R i).1]
  exact Int.emod_eq_of_lt (h.R i).1 (h.R i).2
theorem at_F (h : Wf c) (i : Nat) (hi : i < 8) : at_ (encB c) (80 + 8 * i) 8 = c.F i := by
  unfold at_
  rw [enc_assoc, show 80 + 8 * i = 16 + (64 + 8 * i) by omega, drop_len letters _ 16 _ rfl, drop_len (rB c 16) _ 64 _ (rB_len c 16)]
  unfold fB
  rw [chunk _ 8 8 i _ (fun _ => bs_length _ _) hi, val_bs 8 _ (h.F i).1]
  exact Int.emod_eq_of_lt (h.F i).1 (h.F i).2
theorem at_W (h : Wf c) (i : Nat) (hi : i < 9) : at_ (encB c) (144 + 4 * i) 4 = wd c i := by
  unfold at_
  rw [enc_assoc, show 144 + 4 * i = 16 + (64 + (64 + 4 * i)) by omega, drop_len letters _ 16 _ rfl, drop_len (rB c 16) _ 64 _ (rB_len c 16), drop_len (fB c 8) _ 64 _ (fB_len c 8)]
  unfold wB
  rw [chunk _ 4 9 i _ (fun _ => bs_length _ _) hi, val_bs 4 _ (wd_bd h i).1]
  exact Int.emod_eq_of_lt (wd_bd h i).1 (wd_bd h i).2
theorem enc_last (c : Cx) : rd (encB c) 180 = c.ha % 256 ∧ rd (encB c) 181 = idB c.id := by
  have key : ∀ k : Nat, (encB c)[180 + k]? = [c.ha % 256, idB c.id][k]? := by
    intro k
    have hl : (letters ++ rB c 16 ++ fB c 8 ++ wB c 9).length = 180 := by
      simp only [List.length_append, rB_len, fB_len, wB_len]
      rfl
    unfold encB
    rw [List.getElem?_append_right (by omega), hl, show 180 + k - 180 = k by omega]
  constructor
  · show (encB c).getD 180 0 = _
    rw [List.getD_eq_getElem?_getD, key 0]
    rfl
  · show (encB c).getD 181 0 = _
    rw [List.getD_eq_getElem?_getD, key 1]
    rfl
theorem enc_head (c : Cx) : (encB c).take 16 = letters := by
  rw [enc_assoc]
  exact List.take_left' rfl
theorem dec_enc (h : Wf c) (hr : RightC c) : cxEq (decC (encB c)) c = true ∧ RightC (decC (encB c)) := by
  obtain ⟨r0, r1, r2, r3, r4, r5, r6, r7, r8, r9⟩ := hr
  have hR : ∀ i, i < 16 → (decC (encB c)).R i = c.R i := fun i hi => by
    show (if i < 16 then at_ (encB c) (16 + 4 * i) 4 else 0) = _
    rw [if_pos hi, at_R h i hi]
  have hF : ∀ i, i < 8 → (decC (encB c)).F i = c.F i := fun i hi => by
    show (if i < 8 then at_ (encB c) (80 + 8 * i) 8 else 0) = _
    rw [if_pos hi, at_F h i hi]
  have w0 : (decC (encB c)).pc = c.pc := at_W h 0 (by omega)
  have w1 : (decC (encB c)).st = c.st := at_W h 1 (by omega)
  have w2 : (decC (encB c)).sv = c.sv := at_W h 2 (by omega)
  have w3 : (decC (encB c)).ca = c.ca := at_W h 3 (by omega)
  have w4 : (decC (encB c)).ep = c.ep := at_W h 4 (by omega)
  have w5 : (decC (encB c)).tv = c.tv := at_W h 5 (by omega)
  have w6 : (decC (encB c)).ve = c.ve := at_W h 6 (by omega)
  have w7 : (decC (encB c)).sc = c.sc := at_W h 7 (by omega)
  have w8 : (decC (encB c)).ma = c.ma := at_W h 8 (by omega)
  have hh : (decC (encB c)).ha = c.ha := by
    show rd (encB c) 180 = c.ha
    rw [(enc_last c).1]
    omega
  have hi : (decC (encB c)).id = c.id := by
    show (rd (encB c) 181 == 1) = c.id
    rw [(enc_last c).2]
    cases c.id <;> rfl
  constructor
  · unfold cxEq regsEq ctlEq
    rw [w0, w1, w2, w3, w4, w5, w6, w7, w8, hh, hi]
    have e1 : ((List.range 16).all fun i => (decC (encB c)).R i == c.R i) = true := List.all_eq_true.2 fun i hi => by rw [hR i (List.mem_range.1 hi)]; simp
    have e2 : ((List.range 8).all fun i => (decC (encB c)).F i == c.F i) = true := List.all_eq_true.2 fun i hi => by rw [hF i (List.mem_range.1 hi)]; simp
    rw [e1, e2]
    simp
  · unfold RightC
    rw [hR 0 (by omega), w0, w1, w2, w4, w6, w8, hh, hi]
    exact ⟨r0, r1, r2, r3, r4, r5, r6, r7, r8, r9⟩
theorem decR_enc (h : Wf c) (hr : RightC c) : ∃ x, decR (encB c) = (x, 0) ∧ cxEq x c = true := by
  obtain ⟨h1, h2⟩ := dec_enc h hr
  refine ⟨decC (encB c), ?_, h1⟩
  have hb := rightB_true h2
  unfold decR
  rw [if_neg (by rw [enc_len]; omega), if_neg (by rw [enc_len]; omega), if_neg (by simp [enc_head]), if_neg (by rw [(enc_last c).2]; unfold idB; split <;> omega)]
  unfold decP checkC
  rw [if_pos hb, if_pos hb]
theorem enc_dec {l : List Int} (hl : ∀ x ∈ l, 0 ≤ x ∧ x < 256) (hn : l.length = 182) (hm : l.take 16 = letters) (h1 : ¬ 1 < rd l 181) : encB (decC l) = l := by
  have hat : ∀ i m, i + m ≤ 182 → bs (at_ l i m) m = (l.drop i).take m := fun i m him => by
    have e : ((l.drop i).take m).length = m := by
      simp
      omega
    have h := bs_val ((l.drop i).take m) (fun x hx => hl x (List.mem_of_mem_drop (List.mem_of_mem_take hx)))
    rw [e] at h
    exact h
  have eR : rB (decC l) 16 = (l.drop 16).take 64 := by
    rw [show (64 : Nat) = 4 * 16 from rfl, ← chunks]
    refine flat_congr _ _ 16 fun i hi => ?_
    show bs (if i < 16 then at_ l (16 + 4 * i) 4 else 0) 4 = _
    rw [if_pos hi, hat _ _ (by omega), List.drop_drop]
  have eF : fB (decC l) 8 = (l.drop 80).take 64 := by
    rw [show (64 : Nat) = 8 * 8 from rfl, ← chunks]
    refine flat_congr _ _ 8 fun i hi => ?_
    show bs (if i < 8 then at_ l (80 + 8 * i) 8 else 0) 8 = _
    rw [if_pos hi, hat _ _ (by omega), List.drop_drop]
  have eW : wB (decC l) 9 = (l.drop 144).take 36 := by
    rw [show (36 : Nat) = 4 * 9 from rfl, ← chunks]
    refine flat_congr _ _ 9 fun i hi => ?_
    have e : wd (decC l) i = at_ l (144 + 4 * i) 4 := by
      have : i = 0 ∨ i = 1 ∨ i = 2 ∨ i = 3 ∨ i = 4 ∨ i = 5 ∨ i = 6 ∨ i = 7 ∨ i = 8 := by omega
      rcases this with rfl | rfl | rfl | rfl | rfl | rfl | rfl | rfl | rfl <;> rfl
    rw [e, hat _ _ (by omega), List.drop_drop]
  have b0 := hl (rd l 180) (rd_mem l 180 (by omega))
  have b1 := hl (rd l 181) (rd_mem l 181 (by omega))
  have eL : [(decC l).ha % 256, idB (decC l).id] = l.drop 180 := by
    have d0 := drop_cons' l 180 (by omega)
    have d1 := drop_cons' l 181 (by omega)
    have d2 : l.drop 182 = [] := List.drop_of_length_le (by omega)
    rw [d0, d1, d2]
    have x0 : (decC l).ha % 256 = rd l ((180 : Nat) : Int) := by
      show rd l 180 % 256 = rd l 180
      omega
    have x1 : idB (decC l).id = rd l ((181 : Nat) : Int) := by
      show idB (rd l 181 == 1) = rd l 181
      unfold idB
      by_cases h : rd l 181 = 1
      · rw [h]
        rfl
      · rw [if_neg (by simp [h])]
        omega
    rw [x0, x1]
  unfold encB
  rw [eR, eF, eW, eL, ← hm]
  have t1 : l.take 16 ++ (l.drop 16).take 64 = l.take 80 := by rw [← List.take_add]
  have t2 : l.take 80 ++ (l.drop 80).take 64 = l.take 144 := by rw [← List.take_add]
  have t3 : l.take 144 ++ (l.drop 144).take 36 = l.take 180 := by rw [← List.take_add]
  rw [t1, t2, t3, List.take_append_drop]
/-- What Decode answers: a right context whose bytes these are, or none. -/
theorem decR_back {l : List Int} (hl : ∀ x ∈ l, 0 ≤ x ∧ x < 256) : (∃ x, decR l = (x, 0) ∧ Wf x ∧ RightC x ∧ encB x = l) ∨ ∃ y, decR l = (zc, y) ∧ (y == 0) = false := by
  unfold decR
  by_cases h0 : l.length < 182
  · rw [if_pos h0]
    exact .inr ⟨1, rfl, rfl⟩
  · rw [if_neg h0]
    by_cases h1 : 182 < l.length
    · rw [if_pos h1]
      exact .inr ⟨7, rfl, rfl⟩
    · rw [if_neg h1]
      by_cases h2 : l.take 16 = letters
      · rw [if_neg (by simp [h2])]
        by_cases h3 : 1 < rd l 181
        · rw [if_pos h3]
          exact .inr ⟨6, rfl, rfl⟩
        · rw [if_neg h3]
          unfold decP checkC
          cases hb : rightB (decC l) with
          | true =>
            have hr : RightC (decC l) := by
              refine Classical.byContradiction fun hn => ?_
              rw [rightB_false hn] at hb
              cases hb
            exact .inl ⟨decC l, rfl, wf_dec hl (by omega), hr, enc_dec hl (by omega) h2 h3⟩
          | false => exact .inr ⟨6, rfl, rfl⟩
      · rw [if_pos h2]
        exact .inr ⟨130, rfl, rfl⟩
theorem wf_enter (h : Wf c) (n tv : Int) (t0 : 0 ≤ tv) (t1 : tv < 4294967296) : Wf (enterC c n tv) := by
  obtain ⟨h1, h2, h3, h4, h5, h6, h7, h8, h9, h10, h11, h12⟩ := h
  unfold enterC
  split
  · exact ⟨h1, h2, h3, h4, h5, h6, h7, h8, h9, h10, h11, h12⟩
  · split
    · exact ⟨h1, h2, h3, h4, h5, h6, h7, h8, h9, h10, h11, show -9223372036854775808 ≤ (2 : Int) ∧ (2 : Int) < 9223372036854775808 by omega⟩
    · split
      · exact ⟨h1, h2, h3, h4, h5, h6, h7, h8, h9, h10, h11, show -9223372036854775808 ≤ (3 : Int) ∧ (3 : Int) < 9223372036854775808 by omega⟩
      · exact ⟨h1, h2, h9, show 0 ≤ (6 : Int) ∧ (6 : Int) < 4294967296 by omega, h4, show 0 ≤ n % 4294967296 ∧ n % 4294967296 < 4294967296 by omega, h3, ⟨t0, t1⟩, h9, h10, h11, h12⟩
theorem right_enter (hr : RightC c) (n tv : Int) : RightC (enterC c n tv) := by
  obtain ⟨r0, r1, r2, r3, r4, r5, r6, r7, r8, r9⟩ := hr
  unfold enterC
  split
  · exact ⟨r0, r1, r2, r3, r4, r5, r6, r7, r8, r9⟩
  · split
    · exact ⟨r0, r1, r2, r3, r4, r5, r6, show 0 ≤ (2 : Int) by omega, show (2 : Int) ≤ 3 by omega, fun h => by cases h⟩
    · split
      · exact ⟨r0, r1, r2, r3, r4, r5, r6, show 0 ≤ (3 : Int) by omega, show (3 : Int) ≤ 3 by omega, fun h => by cases h⟩
      · exact ⟨r0, show (6 : Int) < 8 by omega, r1, r3, r6, r4, r6, r7, r8, fun h => by cases h⟩
theorem can_enter (c : Cx) (n tv : Int) : canB (enterC c n tv) = false := by
  refine decide_eq_false ?_
  unfold enterC
  split
  · rename_i h
    exact fun h2 => h h2.1
  · split
    · exact fun h2 => absurd (show (2 : Int) = 0 from h2.1) (by omega)
    · split
      · exact fun h2 => absurd (show (3 : Int) = 0 from h2.1) (by omega)
      · exact fun h2 => absurd (show (6 : Int) % 2 = 1 from h2.2.1) (by omega)
/-- Who has halted, ahead of the trap or by it: nothing else has changed. -/
theorem enter_halted (c : Cx) (n tv : Int) (h : c.ha ≠ 0 ∨ (enterC c n tv).ha ≠ 0) : regsEq (enterC c n tv) c = true ∧ ctlEq (enterC c n tv) c = true := by
  unfold enterC at h ⊢
  split
  · exact ⟨regsEq_self c, ctlEq_self c⟩
  · rename_i h0
    rw [if_neg h0] at h
    split
    · exact ⟨regsEq_self c, ctlEq_self c⟩
    · rename_i h1
      rw [if_neg h1] at h
      split
      · exact ⟨regsEq_self c, ctlEq_self c⟩
      · rename_i h2
        rw [if_neg h2] at h
        exfalso
        rcases h with h | h
        · exact h0 h
        · exact h0 h
theorem enter_back (c : Cx) (n tv : Int) (h0 : c.ha = 0) (h1 : (enterC c n tv).ha = 0) : enterC c n tv = goC c n tv ∧ returnC (enterC c n tv) = backC (goC c n tv) := by
  have key : enterC c n tv = goC c n tv := by
    unfold enterC at h1 ⊢
    rw [if_neg (by simp [h0])] at h1 ⊢
    split at h1
    · exact absurd (show (2 : Int) = 0 from h1) (by omega)
    · rename_i h2
      rw [if_neg h2]
      split at h1
      · exact absurd (show (3 : Int) = 0 from h1) (by omega)
      · rename_i h3
        rw [if_neg h3]
  rw [key]
  exact ⟨rfl, if_pos h0⟩
theorem right_back (hr : RightC c) (n tv : Int) : RightC (backC (goC c n tv)) := by
  obtain ⟨r0, r1, r2, r3, r4, r5, r6, r7, r8, r9⟩ := hr
  exact ⟨r0, r1, r1, r3, r4, r4, r6, r7, r8, fun h => by cases h⟩
theorem wf_back (h : Wf c) (n tv : Int) (t0 : 0 ≤ tv) (t1 : tv < 4294967296) : Wf (backC (goC c n tv)) := by
  obtain ⟨h1, h2, h3, h4, h5, h6, h7, h8, h9, h10, h11, h12⟩ := h
  exact ⟨h1, h2, h3, h4, h4, show 0 ≤ n % 4294967296 ∧ n % 4294967296 < 4294967296 by omega, h3, ⟨t0, t1⟩, h9, h10, h11, h12⟩
theorem bs_bytes (n : Int) (m : Nat) : ∀ x ∈ bs n m, 0 ≤ x ∧ x < 256 := by
  intro x hx
  obtain ⟨i, _, rfl⟩ := List.mem_map.1 (show x ∈ (List.range m).map fun i => n / 256 ^ i % 256 from hx)
  omega
theorem flat_bytes (f : Nat → List Int) (h : ∀ i, ∀ x ∈ f i, 0 ≤ x ∧ x < 256) (N : Nat) : ∀ x ∈ (List.range N).flatMap f, 0 ≤ x ∧ x < 256 := by
  intro x hx
  obtain ⟨i, _, hi⟩ := List.mem_flatMap.1 hx
  exact h i x hi
theorem enc_bytes (c : Cx) : ∀ x ∈ encB c, 0 ≤ x ∧ x < 256 := by
  intro x hx
  unfold encB at hx
  simp only [List.mem_append] at hx
  rcases hx with (((hx | hx) | hx) | hx) | hx
  · revert x
    decide
  · exact flat_bytes _ (fun i => bs_bytes _ _) 16 x hx
  · exact flat_bytes _ (fun i => bs_bytes _ _) 8 x hx
  · exact flat_bytes _ (fun i => bs_bytes _ _) 9 x hx
  · simp only [List.mem_cons, List.not_mem_nil, or_false] at hx
    rcases hx with rfl | rfl
    · omega
    · unfold idB
      split <;> omega
theorem regs_back (c : Cx) (n tv : Int) : regsEq (backC (goC c n tv)) c = true := regsEq_self c
end Go.Proofs.Ythoafohndinbeaa.VcpuBackPure
