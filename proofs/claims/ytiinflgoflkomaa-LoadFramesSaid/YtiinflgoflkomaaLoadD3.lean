/- What load.Decode asks of numbers: the closures. -/
import Derived.Test.YtiinflgoflkomaaLoadD2
namespace Go.Proofs.Ytiinflgoflkomaa.LoadD3
open Go.RowKit Go.Proofs.Ytiinflgoflkomaa.PLoadChecks Go.Proofs.YtiinflgoflkomaaW.PrintWords Go.Proofs.YtiinflgoflkomaaW.PrintLast Go.Proofs.YtiinflgoflkomaaW.PrintMore Go.Proofs.Ytiinflgoflkomaa.Aid Go.Proofs.Ytiinflgoflkomaa.LoadF Go.Proofs.Ytiinflgoflkomaa.LoadSame2 Go.Proofs.Ytiinflgoflkomaa.LoadEnc Go.Proofs.Ytiinflgoflkomaa.LoadPg Go.Proofs.Ytiinflgoflkomaa.LoadD0 Go.Proofs.Ytiinflgoflkomaa.LoadD1
set_option linter.unusedVariables false
set_option linter.unusedSimpArgs false
def withinG (e lo hi x : Int) : Int := if x < lo ∨ hi < x then e else 0
def sizeG (T x : Int) : Int := if x = 0 then 6 else if 16384 < T + x then 9 else 0
def entryG (x : Int) : Int := imgL (x % 4294967296) []
theorem enter_within (args : Array Value) (w1 : World) : (callFunc 32 args).run Try.prog w1 = .ok (.enter 32 args) w1 := enters_ Try.func32 (by kernel_rfl) (by kernel_rfl) args w1
theorem enter_entry (args : Array Value) (w1 : World) : (callFunc 33 args).run Try.prog w1 = .ok (.enter 33 args) w1 := enters_ Try.func33 (by kernel_rfl) (by kernel_rfl) args w1
theorem enter_size (args : Array Value) (w1 : World) : (callFunc 34 args).run Try.prog w1 = .ok (.enter 34 args) w1 := enters_ Try.func34 (by kernel_rfl) (by kernel_rfl) args w1
def Lim (w : World) (ga gb gc : Nat) (e lo hi : Int) : Prop := w.heap[ga]? = some (.cells #[.int .i64 lo] 3 (0, 0)) ∧ w.heap[gb]? = some (.cells #[.int .i64 hi] 3 (0, 0)) ∧ w.heap[gc]? = some (.cells #[.int .i64 e] 28 (0, 0))
theorem Lim.below {w w' : World} {ga gb gc : Nat} {e lo hi : Int} (h : Lim w ga gb gc e lo hi) (hb : Below w.heap.size w w') : Lim w' ga gb gc e lo hi := ⟨blk_below h.1 hb, blk_below h.2.1 hb, blk_below h.2.2 hb⟩
theorem Lim.rest {w0 w w' : World} {k : K5} {A : Option Addr} {c : Nat} {b : List Int} {at' : Nat} {f : Option (Int × Int)} {ga gb gc : Nat} {e lo hi : Int} (h : Lim w ga gb gc e lo hi) (hD : Dst w0 w k A c b at' f) (ha : ga ≠ k.g4) (hb : gb ≠ k.g4) (hr : RestK k w w') : Lim w' ga gb gc e lo hi := by
  obtain ⟨p, h5, _⟩ := hD.b5
  exact ⟨hr.cells h.1 ha (by decide) h5, hr.cells h.2.1 hb (by decide) h5, hr.cells h.2.2 (blk_ne h.2.2 hD.b4 (by decide)) (by decide) h5⟩
set_option maxHeartbeats 1600000 in
set_option maxRecDepth 100000 in
theorem within_calls (e lo hi : Int) (w : World) : Calls Try.prog 31 #[.int .i64 e, .int .i64 lo, .int .i64 hi] w fun e' w' => ∃ ga gb gc : Nat, e' = .returned (.func (.func 32) #[] #[ptr ga, ptr gb, ptr gc]) ∧ Lim w' ga gb gc e lo hi ∧ w.heap.size ≤ ga ∧ w.heap.size ≤ gb ∧ Below w.heap.size w w' := by
  have hmf : ∀ (fn : Fn) (first cap : Array Value) (w : World), (Instr.makeFunc fn first cap).run Try.prog w = .ok (.func fn first cap) w := fun _ _ _ _ => rfl
  go_enter Try.func31, Try.ntmps31
  go_wp2_with (first | ((with_reducible refine gate_dst (N := 3) rfl ?_); refine box_event ?hg (N := 3) ?hd (cs := #[.int .i64 e]) (t := 28) ?hr ?_; (case hd => rfl); (case hg => rfl); (case hr => first | (go_simp; done) | (go_simp; rfl)); intro ga hg w1 hbox hb; have B1 := Aside0.mk hbox; have HB1 := Aside0.mk hb; clear hg hbox hb) | ((with_reducible refine gate_dst (N := 4) rfl ?_); refine box_event ?hg (N := 4) ?hd (cs := #[.int .i64 lo]) (t := 3) ?hr ?_; (case hd => rfl); (case hg => rfl); (case hr => first | (go_simp; done) | (go_simp; rfl)); intro gb hg w2 hbox hb; have GE2 := Aside0.mk (show w.heap.size ≤ gb by rw [hg]; exact HB1.out.size); have B1 := Aside0.mk (blk_below B1.out hb); have B2 := Aside0.mk hbox; have HB2 := Aside0.mk (below_step HB1.out hb); clear hg hbox hb) | ((with_reducible refine gate_dst (N := 5) rfl ?_); refine box_event ?hg (N := 5) ?hd (cs := #[.int .i64 hi]) (t := 3) ?hr ?_; (case hd => rfl); (case hg => rfl); (case hr => first | (go_simp; done) | (go_simp; rfl)); intro gc hg w3 hbox hb; have GE3 := Aside0.mk (show w.heap.size ≤ gc by rw [hg]; exact HB2.out.size); have B1 := Aside0.mk (blk_below B1.out hb); have B2 := Aside0.mk (blk_below B2.out hb); have B3 := Aside0.mk hbox; have HB3 := Aside0.mk (below_step HB2.out hb); clear hg hbox hb))
  go_ret
  exact ⟨gb, gc, ga, rfl, ⟨B2.out, B3.out, B1.out⟩, GE2.out, GE3.out, HB3.out⟩
set_option maxHeartbeats 1600000 in
set_option maxRecDepth 100000 in
theorem within1_calls (e lo hi x : Int) (ga gb gc : Nat) (w : World) (h : Lim w ga gb gc e lo hi) : Calls Try.prog 32 #[.int .i64 x, ptr ga, ptr gb, ptr gc] w fun e' w' => e' = .returned (.int .i64 (withinG e lo hi x)) ∧ Below w.heap.size w w' := by
  have c1 : w.cell? ⟨ga, 0, none⟩ = some (.int .i64 lo) := (blk_cell h.1 0).trans rfl
  have c2 : w.cell? ⟨gb, 0, none⟩ = some (.int .i64 hi) := (blk_cell h.2.1 0).trans rfl
  have c3 : w.cell? ⟨gc, 0, none⟩ = some (.int .i64 e) := (blk_cell h.2.2 0).trans rfl
  clear h
  unfold ptr
  obtain ⟨y, hy⟩ : ∃ y, y = withinG e lo hi x := ⟨_, rfl⟩
  rw [← hy]
  unfold withinG at hy
  by_cases h1 : x < lo
  · have e1 : decide (x < lo) = true := decide_eq_true h1
    rw [if_pos (.inl h1)] at hy
    subst hy
    go_enter Try.func32, Try.ntmps32
    go_wp2_with fail
    go_ret
    exact ⟨rfl, Below.refl _ _⟩
  · have e1 : decide (x < lo) = false := decide_eq_false h1
    by_cases h2 : hi < x
    · have e2 : decide (hi < x) = true := decide_eq_true h2
      rw [if_pos (.inr h2)] at hy
      subst hy
      go_enter Try.func32, Try.ntmps32
      go_wp2_with fail
      go_ret
      exact ⟨rfl, Below.refl _ _⟩
    · have e2 : decide (hi < x) = false := decide_eq_false h2
      rw [if_neg (by omega)] at hy
      subst hy
      go_enter Try.func32, Try.ntmps32
      go_wp2_with fail
      go_ret
      exact ⟨rfl, Below.refl _ _⟩
set_option maxHeartbeats 1600000 in
set_option maxRecDepth 100000 in
theorem entry_calls (x : Int) (w : World) : Calls Try.prog 33 #[.int .i64 x] w fun e' w' => e' = .returned (.int .i64 (entryG x)) ∧ Below w.heap.size w w' := by
  obtain ⟨y, hy⟩ : ∃ y, y = entryG x := ⟨_, rfl⟩
  rw [← hy]
  have HF : Aside0 (load_Check.f 20 (x % 4294967296) [] = some y) := ⟨by rw [hy]; exact Check_f (by omega) ⟨by simp, fun s hs => by simp at hs⟩ (Nat.le_refl _)⟩
  clear hy
  have z1 : IntKind.u32.wrap x = x % 4294967296 := u32w x
  go_enter Try.func33, Try.ntmps33
  go_wp2_with fail
  refine (load_Check.calls 20 (x % 4294967296) none 0 [] y _ ⟨rfl, by simp, fun h => absurd h (by simp)⟩ (Nat.le_refl _) HF.out).mono ?_
  rintro e w1 ⟨rfl, hb⟩
  have HB := Aside0.mk hb
  clear hb
  go_wp2_with fail
  go_ret
  exact ⟨rfl, HB.out⟩
set_option maxHeartbeats 1600000 in
set_option maxRecDepth 100000 in
theorem size_calls (T x : Int) (g : Nat) (w : World) (h : w.heap[g]? = some (.cells #[.int .i64 T] 3 (0, 0))) (hT : 0 ≤ T ∧ T ≤ 16384) (hx : 0 ≤ x ∧ x < 4294967296) : Calls Try.prog 34 #[.int .i64 x, ptr g] w fun e' w' => e' = .returned (.int .i64 (sizeG T x)) ∧ Below w.heap.size w w' := by
  have c1 : w.cell? ⟨g, 0, none⟩ = some (.int .i64 T) := (blk_cell h 0).trans rfl
  have z1 : wrap64 (T + x) = T + x := w64 (by omega) (by omega)
  obtain ⟨y, hy⟩ : ∃ y, y = sizeG T x := ⟨_, rfl⟩
  rw [← hy]
  unfold sizeG at hy
  unfold ptr
  clear h hT hx
  by_cases h1 : x = 0
  · have e1 : (x == 0) = true := by simp [h1]
    rw [if_pos h1] at hy
    subst hy
    clear h1
    go_enter Try.func34, Try.ntmps34
    go_wp2_with fail
    go_ret
    exact ⟨rfl, Below.refl _ _⟩
  · have e1 : (x == 0) = false := by simp [h1]
    rw [if_neg h1] at hy
    clear h1
    by_cases h2 : 16384 < T + x
    · have e2 : decide (16384 < T + x) = true := decide_eq_true h2
      rw [if_pos h2] at hy
      subst hy
      go_enter Try.func34, Try.ntmps34
      go_wp2_with fail
      go_ret
      exact ⟨rfl, Below.refl _ _⟩
    · have e2 : decide (16384 < T + x) = false := decide_eq_false h2
      rw [if_neg h2] at hy
      subst hy
      go_enter Try.func34, Try.ntmps34
      go_wp2_with fail
      go_ret
      exact ⟨rfl, Below.refl _ _⟩
end Go.Proofs.Ytiinflgoflkomaa.LoadD3
