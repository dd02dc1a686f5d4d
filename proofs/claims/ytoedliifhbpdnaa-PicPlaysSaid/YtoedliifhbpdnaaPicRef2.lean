/- The document's controller: Mask and New. -/
import Derived.Test.YtoedliifhbpdnaaPicRef
namespace Go.Proofs.Ytoedliifhbpdnaa.PicRef2
open Go.RowKit Go.Proofs.Ytoedliifhbpdnaa.PPicPlays Go.Proofs.YtoedliifhbpdnaaW.PrintWords Go.Proofs.YtoedliifhbpdnaaW.PrintLast Go.Proofs.YtoedliifhbpdnaaW.PrintMore Go.Proofs.Ytoedliifhbpdnaa.Aid Go.Proofs.Ytoedliifhbpdnaa.PicRef
set_option linter.unusedVariables false
set_option linter.unusedSimpArgs false

set_option maxHeartbeats 800000 in
theorem rmask_calls (g o f L m : Nat) (p q : Nat → Bool) (w0 w : World) (hI : IsM w0 w g o f L p q) (hB : Below w0.heap.size w0 w) (hL : L ≤ 32) (hm : m < 4294967296) :
    Calls Try.prog 18 #[.pointer (some ⟨g, 0, none⟩), .int .u32 m] w fun e w' => e = .returned (.tuple #[]) ∧ IsM w0 w' g o f L p (fun i => m.testBit i) ∧ Below w0.heap.size w0 w' ∧ KeepBut w w' f none := by
  have HI := Aside0.mk hI
  have HB := Aside0.mk hB
  have HF := Aside0.mk hI.2.2.2.2.2.1
  clear hI hB
  go_enter Try.func18, Try.ntmps18
  go_wp2_with fail
  go_loopw [4] (fun i wr => ∃ k : Nat, k ≤ L ∧ i = .int .i64 k ∧ Aside0 (IsM w0 wr g o f L p (fun j => if j < k then m.testBit j else q j)) ∧ Aside0 (Below w0.heap.size w0 wr) ∧ Aside0 (KeepBut w wr f none)) (fun i _ => L - (intOf i).toNat)
  case atStart => exact ⟨0, Nat.zero_le _, rfl, ⟨HI.out.congr (fun _ _ => rfl) (fun i _ => by simp)⟩, HB, ⟨KeepBut.refl _ _ _⟩⟩
  case round =>
    clear HI HB
    obtain ⟨k, hk, rfl, HI, HB, HK⟩ := hrel
    have hc1 := HI.out.c1
    by_cases c : k < L
    · have hoff := HI.out.off c
      have hf := blk_frozen HI.out.2.2.1 k
      have c0 : decide ((k : Int) < (L : Int)) = true := decide_eq_true (by omega)
      have HT : Aside0 ((Go.bits .and .u32 ((m : Int) / 2 ^ k) 1 == 1) = m.testBit k) := ⟨by
        rw [bit1 hm]
        cases m.testBit k <;> rfl⟩
      go_wp2_with fail
      go_region
      go_wp2_with fail
      rw [HT.out]
      go_roundw
      case rel =>
        refine ⟨k + 1, by omega, by go_num, ⟨(HI.out.setOff k (m.testBit k)).congr (fun _ _ => rfl) (fun i _ => ?_)⟩, ⟨below_drew1 (below_set HB.out HF.out)⟩, ⟨keep_drew (HK.out.set_ _ _)⟩⟩
        by_cases h1 : i = k
        · subst h1
          simp
        · by_cases h2 : i < k
          · simp [h1, h2, show i < k + 1 by omega]
          · simp [h1, h2, show ¬ i < k + 1 by omega]
      case measure =>
        simp [intOf]
        omega
    · have c0 : decide ((k : Int) < (L : Int)) = false := decide_eq_false (by omega)
      have ek : k = L := by omega
      subst ek
      clear hk c
      go_wp2_with fail
      first | go_end0 | ((try simp only [Exit.inBlock, Exit.then]); refine bodyPost_ret (results_none rfl _ _ _) rfl ?_)
      exact ⟨rfl, HI.out.congr (fun _ _ => rfl) (fun i hi => by simp [hi]), HB.out, HK.out⟩
set_option maxHeartbeats 800000 in
theorem rnew_no (n : Int) (w : World) (hn : ¬ (1 ≤ n ∧ n ≤ 32)) :
    Calls Try.prog 15 #[.int .i64 n] w fun e w' => e = .returned (.tuple #[.pointer none, .int .i64 2]) ∧ w' = w := by
  by_cases c : n < 1
  · go_enter Try.func15, Try.ntmps15
    go_wp2
    go_ret2
    exact ⟨rfl, rfl⟩
  · have c2 : 32 < n := by omega
    go_enter Try.func15, Try.ntmps15
    go_wp2
    go_ret2
    exact ⟨rfl, rfl⟩
theorem info4b : (Try.prog.info? 4).map (fun i => (i.zero, i.size, i.bytes)) = some (some (.bool false), 1, 1) := by kernel_rfl
theorem made_row (L : Nat) : madeCells (Value.bool false).cells (L * 1) = rowb (fun _ => false) L := by
  apply Array.ext'
  simp [madeCells, rowb, Value.cells, Nat.mod_one]
theorem make_row (L : Nat) (h : L ≤ 32) (W : World) : (Instr.makeSlice 50 (.int .i64 L) (.int .i64 L)).run Try.prog W = .ok (.slice (some ⟨W.heap.size, 0, none⟩) L L) (W.alloc (.cells (rowb (fun _ => false) L) 4)) := by
  obtain ⟨i, hi, e⟩ := Option.map_eq_some_iff.1 info4b
  injection e with e1 e2
  injection e2 with e2 e3
  have hr := run_make (P := Try.prog) W 50 4 i (.bool false) Try.underlying50 hi e1 .i64 .i64 L L (by omega) (by omega) (by rw [e3]; omega) (by omega)
  rw [Int.toNat_natCast, e2, made_row] at hr
  exact hr
theorem new_M (w : World) (L o f : Nat) (h : (o = w.heap.size ∧ f = w.heap.size + 1) ∨ (o = w.heap.size + 1 ∧ f = w.heap.size)) :
    IsM w ((((w.alloc (.cells (rowb (fun _ => false) L) 4)).alloc (.cells (rowb (fun _ => false) L) 4)).alloc (.cells #[.slice (some ⟨o, 0, none⟩) L L, .slice (some ⟨f, 0, none⟩) L L] 52)).drew) (w.heap.size + 1 + 1) o f L (fun _ => false) (fun _ => false) ∧
    Below w.heap.size w ((((w.alloc (.cells (rowb (fun _ => false) L) 4)).alloc (.cells (rowb (fun _ => false) L) 4)).alloc (.cells #[.slice (some ⟨o, 0, none⟩) L L, .slice (some ⟨f, 0, none⟩) L L] 52)).drew) := by
  have hz : ((w.alloc (.cells (rowb (fun _ => false) L) 4)).alloc (.cells (rowb (fun _ => false) L) 4)).heap.size = w.heap.size + 1 + 1 := by simp
  have hy : (w.alloc (.cells (rowb (fun _ => false) L) 4)).heap.size = w.heap.size + 1 := by simp
  have hg := heap_alloc_new ((w.alloc (.cells (rowb (fun _ => false) L) 4)).alloc (.cells (rowb (fun _ => false) L) 4)) (.cells #[.slice (some ⟨o, 0, none⟩) L L, .slice (some ⟨f, 0, none⟩) L L] 52)
  have h1 := blk_alloc (blk_alloc (heap_alloc_new w (.cells (rowb (fun _ => false) L) 4)) (.cells (rowb (fun _ => false) L) 4)) (.cells #[.slice (some ⟨o, 0, none⟩) L L, .slice (some ⟨f, 0, none⟩) L L] 52)
  have h2 := blk_alloc (heap_alloc_new (w.alloc (.cells (rowb (fun _ => false) L) 4)) (.cells (rowb (fun _ => false) L) 4)) (.cells #[.slice (some ⟨o, 0, none⟩) L L, .slice (some ⟨f, 0, none⟩) L L] 52)
  rw [hz] at hg
  rw [hy] at h2
  refine ⟨?_, below_drew1 (below_alloc (below_alloc (below_alloc (Below.refl _ _) _) _) _)⟩
  rcases h with ⟨rfl, rfl⟩ | ⟨rfl, rfl⟩
  · exact ⟨hg, h1, h2, by omega, by omega, by omega, by omega⟩
  · exact ⟨hg, h2, h1, by omega, by omega, by omega, by omega⟩
set_option maxHeartbeats 800000 in
theorem rnew_ok (L : Nat) (w : World) (h0 : 1 ≤ L) (h1 : L ≤ 32) :
    Calls Try.prog 15 #[.int .i64 L] w fun e w' => ∃ g o f : Nat, e = .returned (.tuple #[.pointer (some ⟨g, 0, none⟩), .int .i64 0]) ∧ IsM w w' g o f L (fun _ => false) (fun _ => false) ∧ Below w.heap.size w w' := by
  go_enter Try.func15, Try.ntmps15
  have m1 := make_row L h1 w.drew
  have m2 := make_row L h1 (w.alloc (.cells (rowb (fun _ => false) L) 4)).drew
  have H1 := Aside0.mk (new_M w L (w.heap.size) (w.heap.size + 1) (.inl ⟨rfl, rfl⟩))
  have H2 := Aside0.mk (new_M w L (w.heap.size + 1) (w.heap.size) (.inr ⟨rfl, rfl⟩))
  go_wp2
  go_region
  · go_wp2
    go_ret2
    exact ⟨_, _, _, rfl, H1.out.1, H1.out.2⟩
  · go_wp2
    go_ret2
    exact ⟨_, _, _, rfl, H2.out.1, H2.out.2⟩
end Go.Proofs.Ytoedliifhbpdnaa.PicRef2
