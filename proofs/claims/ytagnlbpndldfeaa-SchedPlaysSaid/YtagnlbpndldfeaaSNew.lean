/- What a call of sched.New comes to. -/
import Derived.Test.YtagnlbpndldfeaaSState
import Derived.Test.YtagnlbpndldfeaaSPlanNewF
namespace Go.Proofs.Ytagnlbpndldfeaa.SNew
open Go.RowKit Go.Proofs.Ytagnlbpndldfeaa.PSchedPlays Go.Proofs.YtagnlbpndldfeaaW.PrintWords Go.Proofs.YtagnlbpndldfeaaW.PrintLast Go.Proofs.YtagnlbpndldfeaaW.PrintMore Go.Proofs.Ytagnlbpndldfeaa.Aid Go.Proofs.Ytagnlbpndldfeaa.PlanBase Go.Proofs.Ytagnlbpndldfeaa.SBase Go.Proofs.Ytagnlbpndldfeaa.SState

/-- What a call of New comes to. -/
def NewS (w : World) (M G : Int) (l : List S45) (e : Ending) (w' : World) : Prop :=
  Below w.heap.size w w' ∧ ((newE M G l ≠ 0 ∧ e = .returned (.tuple #[.pointer none, .int .i64 (newE M G l)])) ∨ (newE M G l = 0 ∧ ∃ p : Pl, e = .returned (.tuple #[.pointer (some ⟨p.gs, 0, none⟩), .int .i64 0]) ∧ w.heap.size ≤ p.lo ∧ p.lo ≤ p.hi ∧ Raw w' p M G l 0 false 0 false false 0 0 0))
theorem raw_new {w1 w2 w3 w4 : World} {gs gc gp gq lo : Nat} {M G : Int} {l : List S45} (hP : PlanI 90 w1 gq M G l lo w1.heap.size) (h12 : Below w1.heap.size w1 w2) (hgp : w1.heap.size ≤ gp) (hC : Ctl w2 gp 0) (h23 : Below w2.heap.size w2 w3) (hgc : w2.heap.size ≤ gc) (hcl : Clk w3 gc 0 false 0)
    (hown : w4.heap[gs]? = some (.cells #[.pointer (some ⟨gc, 0, none⟩), .pointer (some ⟨gp, 0, none⟩), .pointer (some ⟨gq, 0, none⟩), .int .i64 G, .bool false, .int .i64 0, .int .i64 0, .int .i64 0] 43 (0, 0))) (hgs : w2.heap.size ≤ gs) (h34 : Below w3.heap.size w3 w4) : Raw w4 ⟨gs, gc, gp, gq, lo, w1.heap.size⟩ M G l 0 false 0 false false 0 0 0 := by
  have b : ∀ {u v : World}, Below u.heap.size u v → Moves u v (fun _ => False) := fun h => Moves.of_below h _
  refine ⟨hown, (b h34).blk hcl id, (b h34).blk ((b h23).blk hC id) id, ?_, ?_, ?_, ?_⟩
  · exact ((hP.moves (b h12) (fun _ h => h.elim)).moves (b h23) (fun _ h => h.elim)).moves (b h34) (fun _ h => h.elim)
  · exact Nat.le_trans h12.size hgs
  · exact Nat.le_trans h12.size hgc
  · exact hgp
set_option maxHeartbeats 3200000 in
set_option maxRecDepth 100000 in
theorem new_calls (x0 M G x3 x4 x5 : Int) (A6 A7 A8 : Option Addr) (n6 k6 k7 n8 k8 : Nat) (l : List S45) (w : World) (hr : Kd.C k45 w A7 l.length l)
    (hw : ∀ x ∈ l, (-9223372036854775808 ≤ x.f1 ∧ x.f1 < 9223372036854775808) ∧ (-9223372036854775808 ≤ x.f2 ∧ x.f2 < 9223372036854775808)) :
    Calls Try.prog 8 #[.agg #[.int .i64 x0, .int .i64 M, .int .i64 G, .int .i64 x3, .int .i64 x4, .int .i64 x5, .slice A6 n6 k6, .slice A7 l.length k7, .slice A8 n8 k8]] w (NewS w M G l) := by
  have key : Aside0 ((w.alloc (.cells #[.int .i64 x0, .int .i64 M, .int .i64 G, .int .i64 x3, .int .i64 x4, .int .i64 x5, .slice A6 n6 k6, .slice A7 l.length k7, .slice A8 n8 k8] 26)).heap[w.heap.size]? = some (.cells #[.int .i64 x0, .int .i64 M, .int .i64 G, .int .i64 x3, .int .i64 x4, .int .i64 x5, .slice A6 n6 k6, .slice A7 l.length k7, .slice A8 n8 k8] 26 (0, 0))) := ⟨heap_alloc_new w _⟩
  have HB0 : Aside0 (Below w.heap.size w (w.alloc (.cells #[.int .i64 x0, .int .i64 M, .int .i64 G, .int .i64 x3, .int .i64 x4, .int .i64 x5, .slice A6 n6 k6, .slice A7 l.length k7, .slice A8 n8 k8] 26))) := ⟨below_alloc (Below.refl _ _) _⟩
  have HC := Aside0.mk (Kd.C_alloc hr (.cells #[.int .i64 x0, .int .i64 M, .int .i64 G, .int .i64 x3, .int .i64 x4, .int .i64 x5, .slice A6 n6 k6, .slice A7 l.length k7, .slice A8 n8 k8] 26))
  have HW := Aside0.mk hw
  clear hr hw
  go_enter Try.func8, Try.ntmps8
  go_wp2_with fail
  refine (SPlanNewF.new_calls x0 M G x3 x4 x5 A6 A7 A8 n6 k6 k7 n8 k8 l _ HC.out HW.out).mono ?_
  generalize hE : newE M G l = E
  rintro e w1 ⟨hB, h⟩
  rcases h with ⟨hne, rfl⟩ | ⟨h0, gq, rfl, hg1, hg2, hP⟩
  · have HB := Aside0.mk (below_step HB0.out hB)
    have HE := Aside0.mk hE
    have d : (E == 0) = false := beq_eq_false_iff_ne.2 hne
    have d2 : (E != 0) = true := bne_iff_ne.2 hne
    clear hE hB HB0
    go_wp2_with fail
    go_ret2
    exact ⟨HB.out, .inl ⟨by rw [HE.out]; exact hne, by rw [HE.out]; rfl⟩⟩
  · subst h0
    have HE := Aside0.mk hE
    have hbr := (hB.block w.heap.size (blk_lt key.out)).trans key.out
    have BR := Aside0.mk hbr
    have HB := Aside0.mk (below_step HB0.out hB)
    have HP := Aside0.mk hP
    have HL := Aside0.mk (Nat.succ_le_of_lt (blk_lt key.out))
    have HS := Aside0.mk hB.size
    clear hE hB hP hbr hg1 hg2 HB0 HC key
    go_wp2_with fail
    refine (pic_new w1).mono ?_
    rintro e w2 ⟨gp, rfl, hgp, hC, hB⟩
    have BR2 := Aside0.mk ((hB.block w.heap.size (blk_lt BR.out)).trans BR.out)
    have HB2 := Aside0.mk (below_step HB.out hB)
    have HB12 := Aside0.mk hB
    have HG := Aside0.mk hgp
    have HCT := Aside0.mk hC
    have c2 : w2.cell? ⟨w.heap.size, 2, none⟩ = some (Value.int IntKind.i64 G) := (blk_cell BR2.out 2).trans rfl
    have hlt2 := blk_lt BR2.out
    clear hB hgp hC BR
    go_wp2_with fail
    go_region_with (go_at_call 25; refine (clock_new _).mono ?_; rintro e w3 ⟨gc, rfl, hgc, hCl, hB3⟩; have c2 := (hB3.cell (p := ⟨w.heap.size, 2, none⟩) hlt2).trans c2; have HB3 := Aside0.mk hB3; have HCL := Aside0.mk hCl; have HGC := Aside0.mk hgc; clear hB3 hCl hgc)
    all_goals
      have HB4 : Aside0 (Below w2.heap.size w2 w3) := ⟨below_step (below_drew (Below.refl w2.heap.size w2)) HB3.out⟩
      go_wp2_with fail
      go_ret2
      refine ⟨below_step HB2.out (by repeat (first | exact HB4.out | apply below_alloc | apply pw_below_drewN | apply below_drew)), .inr ⟨HE.out, ⟨_, gc, gp, gq, _, w1.heap.size⟩, rfl, Nat.le_trans (Nat.le_succ _) HL.out, HS.out, raw_new ⟨Nat.le_refl _, HP.out⟩ HB12.out HG.out HCT.out HB4.out HGC.out HCL.out (by simpa using heap_alloc_new _ _) ?_ ?_⟩⟩
      · exact HB4.out.size
      · exact below_alloc (Below.refl _ _) _
end Go.Proofs.Ytagnlbpndldfeaa.SNew
