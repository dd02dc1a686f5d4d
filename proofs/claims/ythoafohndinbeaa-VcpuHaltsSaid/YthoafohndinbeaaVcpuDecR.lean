/- What both Decodes answer of any bytes. -/
import Derived.Test.YthoafohndinbeaaVcpuRDec
namespace Go.Proofs.Ythoafohndinbeaa.VcpuDecR
open Go.RowKit Go.Proofs.YthoafohndinbeaaW.PrintWords Go.Proofs.YthoafohndinbeaaW.PrintLast Go.Proofs.Ythoafohndinbeaa.Aid Go.Proofs.Ythoafohndinbeaa.VcpuBase Go.Proofs.Ythoafohndinbeaa.VcpuCheck Go.Proofs.Ythoafohndinbeaa.VcpuEnc Go.Proofs.Ythoafohndinbeaa.VcpuDec Go.Proofs.Ythoafohndinbeaa.VcpuRDec
set_option maxRecDepth 100000
theorem str_head {xs : List Int} (h : ∀ x ∈ xs, 0 ≤ x ∧ x < 256) (he : (strOfNums xs).toList = [66, 85, 76, 75, 72, 69, 65, 68, 45, 67, 79, 78, 84, 69, 88, 84]) : xs = letters := by
  rw [ByteArray.toList_eq] at he
  have h1 : xs.map (fun n => UInt8.ofNat n.toNat) = [66, 85, 76, 75, 72, 69, 65, 68, 45, 67, 79, 78, 84, 69, 88, 84] := by
    simpa [strOfNums] using he
  have h2 := congrArg (List.map fun b : UInt8 => (b.toNat : Int)) h1
  rw [List.map_map] at h2
  have h3 : xs.map ((fun b : UInt8 => (b.toNat : Int)) ∘ fun n => UInt8.ofNat n.toNat) = xs := by
    refine (List.map_congr_left fun x hx => ?_).trans (List.map_id _)
    obtain ⟨a, b⟩ := h x hx
    show ((UInt8.ofNat x.toNat).toNat : Int) = x
    rw [UInt8.toNat_ofNat']
    omega
  rw [h3] at h2
  exact h2
open Classical in
/-- The context that bytes are, and what is wrong with them. -/
noncomputable def decR (l : List Int) : Cx × Int := if l.length < 182 then (zc, 1) else if 182 < l.length then (zc, 7) else if l.take 16 ≠ letters then (zc, 130) else if 1 < rd l 181 then (zc, 6) else (decP l, checkC (decC l))
theorem decs (A : Option Addr) (cap : Nat) (l : List Int) (w : World) (hr : (Kd.int .u8).C w A l.length l) (hc : l.length ≤ cap) (hl : ∀ x ∈ l, 0 ≤ x ∧ x < 256) (hn : l.length ≤ 140737488351232) :
    (Calls Try.prog 29 #[.slice A l.length cap] w fun e w' => e = .returned (.tuple #[.agg (vc (decR l).1), .int .i64 (decR l).2]) ∧ Below w.heap.size w w') ∧
    (Calls Try.prog 30 #[.slice A l.length cap] w fun e w' => e = .returned (.tuple #[.agg (vc (decR l).1), .int .i64 (decR l).2]) ∧ Below w.heap.size w w') := by
  by_cases h0 : l.length < 182
  · have e : decR l = (zc, 1) := if_pos h0
    rw [e]
    exact ⟨dec_short A _ cap w (decide_eq_true (by omega)) hn, rdec_short A _ cap w (decide_eq_true (by omega)) hn⟩
  · by_cases h1 : 182 < l.length
    · have e : decR l = (zc, 7) := by
        unfold decR
        rw [if_neg h0, if_pos h1]
      rw [e]
      exact ⟨dec_long A _ cap w (decide_eq_false (by omega)) (decide_eq_true (by omega)) hn, rdec_long A _ cap w (decide_eq_false (by omega)) (decide_eq_true (by omega)) hn⟩
    · have hn2 : l.length = 182 := by omega
      rw [hn2] at hr hc ⊢
      obtain ⟨ad, rfl, hcl⟩ := hr.2.2 (by omega)
      obtain ⟨cs, hcs1, hcs, hcel⟩ := hcl 0 l[0] (List.getElem?_eq_getElem (by omega))
      have hcs' : cs = [Value.int .u8 l[0]] := hcs
      have hc0 := hcel 0 (.int .u8 l[0]) (by rw [hcs']; rfl)
      clear hcs hcs' hcs1
      obtain ⟨ab, ao, spot⟩ := ad
      have hs : spot = none := by
        have h1 : (⟨ab, ao, spot⟩ : Addr).add (0 * (Kd.int .u8).sz + 0) = ⟨ab, ao, spot⟩ := by simp [Addr.add]
        rw [h1] at hc0
        exact World.cell?_spot hc0
      subst hs
      have hne : ab < w.heap.size := by
        have := World.block_lt_of_cell? _ _ (byte_cell hr 0 (by omega))
        exact this
      by_cases h2 : l.take 16 = letters
      · by_cases h3 : 1 < rd l 181
        · have e : decR l = (zc, 6) := by
            unfold decR
            rw [if_neg h0, if_neg h1, if_neg (by simp [h2]), if_pos h3]
          rw [e]
          exact ⟨dec_bit l ab ao cap w ⟨hn2⟩ ⟨hl⟩ hc ⟨hr⟩ ⟨h2⟩ _ ⟨rfl⟩ (decide_eq_true h3) hne, rdec_bit l ab ao cap w ⟨hn2⟩ ⟨hl⟩ hc ⟨hr⟩ ⟨h2⟩ _ ⟨rfl⟩ hne (decide_eq_true h3)⟩
        · have e : decR l = (decP l, checkC (decC l)) := by
            unfold decR
            rw [if_neg h0, if_neg h1, if_neg (by simp [h2]), if_neg h3]
          rw [e]
          exact ⟨dec_main l ab ao cap w ⟨hn2⟩ ⟨hl⟩ hc ⟨hr⟩ ⟨h2⟩ _ ⟨rfl⟩ (decide_eq_false h3) hne, rdec_main l ab ao cap w ⟨hn2⟩ ⟨hl⟩ hc ⟨hr⟩ ⟨h2⟩ _ ⟨rfl⟩ hne (decide_eq_false h3)⟩
      · have e : decR l = (zc, 130) := by
          unfold decR
          rw [if_neg h0, if_neg h1, if_pos h2]
        rw [e]
        have q : ((strOfNums (l.take 16)).toList == [66, 85, 76, 75, 72, 69, 65, 68, 45, 67, 79, 78, 84, 69, 88, 84]) = false :=
          beq_eq_false_iff_ne.2 fun he => h2 (str_head (fun x hx => hl x (List.mem_of_mem_take hx)) he)
        exact ⟨dec_magic l _ ab ao cap w ⟨hn2⟩ hc ⟨hr⟩ ⟨rfl⟩ q, rdec_magic l _ ab ao cap w ⟨hn2⟩ hc ⟨hr⟩ ⟨rfl⟩ q⟩
theorem wf_zc : Wf zc := by
  refine ⟨fun i => ?_, fun i => ?_, ?_, ?_, ?_, ?_, ?_, ?_, ?_, ?_, ?_, ?_⟩ <;> simp [zc]
end Go.Proofs.Ythoafohndinbeaa.VcpuDecR
