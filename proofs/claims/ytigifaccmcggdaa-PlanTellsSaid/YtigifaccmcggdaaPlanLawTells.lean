/- The law PlanTells: the walk. -/
import Derived.Test.YtigifaccmcggdaaPlanCalls
import Derived.Test.YtigifaccmcggdaaPlanNew
import Derived.Test.YtigifaccmcggdaaPlanRNew
import Derived.Test.YtigifaccmcggdaaPlanRec
namespace Go.Proofs.Ytigifaccmcggdaa.PlanLawTells
open Go.RowKit Go.Proofs.Ytigifaccmcggdaa.PPlanCycles Go.Proofs.YtigifaccmcggdaaW.PrintWords Go.Proofs.YtigifaccmcggdaaW.PrintLast Go.Proofs.YtigifaccmcggdaaW.PrintMore Go.Proofs.Ytigifaccmcggdaa.Aid Go.Proofs.Ytigifaccmcggdaa.PlanBase Go.Proofs.Ytigifaccmcggdaa.PlanAt Go.Proofs.Ytigifaccmcggdaa.PlanStart Go.Proofs.Ytigifaccmcggdaa.PlanCalls

set_option maxHeartbeats 1600000 in
set_option maxRecDepth 100000 in
theorem tells (x0 M G x3 x4 x5 t major i : Int) (A6 A7 A8 : Option Addr) (n6 k6 k7 n8 k8 : Nat) (l : List S35) (w : World) (hr : Kd.C k35 w A7 l.length l)
    (hw : ∀ x ∈ l, (-9223372036854775808 ≤ x.f1 ∧ x.f1 < 9223372036854775808) ∧ (-9223372036854775808 ≤ x.f2 ∧ x.f2 < 9223372036854775808)) :
    Calls Try.prog 4 #[.agg #[.int .i64 x0, .int .i64 M, .int .i64 G, .int .i64 x3, .int .i64 x4, .int .i64 x5, .slice A6 n6 k6, .slice A7 l.length k7, .slice A8 n8 k8], .int .i64 t, .int .i64 major, .int .i64 i] w fun e w' => e = .returned (.bool true) ∧ Below w.heap.size w w' := by
  have HR := Aside0.mk hr
  have HW := Aside0.mk hw
  clear hr hw
  go_enter Try.func4, Try.ntmps4
  go_wp2_with fail
  have b1 : Aside0 ((w.alloc (Obj.cells #[Value.int IntKind.i64 x0, Value.int IntKind.i64 M, Value.int IntKind.i64 G, Value.int IntKind.i64 x3, Value.int IntKind.i64 x4, Value.int IntKind.i64 x5, Value.slice A6 n6 k6, Value.slice A7 l.length k7, Value.slice A8 n8 k8] 26)).heap[w.heap.size]? = some (.cells #[Value.int IntKind.i64 x0, Value.int IntKind.i64 M, Value.int IntKind.i64 G, Value.int IntKind.i64 x3, Value.int IntKind.i64 x4, Value.int IntKind.i64 x5, Value.slice A6 n6 k6, Value.slice A7 l.length k7, Value.slice A8 n8 k8] 26 (0, 0))) := ⟨heap_alloc_new w _⟩
  have b2 : Aside0 (Below w.heap.size w (w.alloc (Obj.cells #[Value.int IntKind.i64 x0, Value.int IntKind.i64 M, Value.int IntKind.i64 G, Value.int IntKind.i64 x3, Value.int IntKind.i64 x4, Value.int IntKind.i64 x5, Value.slice A6 n6 k6, Value.slice A7 l.length k7, Value.slice A8 n8 k8] 26))) := ⟨below_alloc (Below.refl _ _) _⟩
  have HR1 : Aside0 (Kd.C k35 (w.alloc (Obj.cells #[Value.int IntKind.i64 x0, Value.int IntKind.i64 M, Value.int IntKind.i64 G, Value.int IntKind.i64 x3, Value.int IntKind.i64 x4, Value.int IntKind.i64 x5, Value.slice A6 n6 k6, Value.slice A7 l.length k7, Value.slice A8 n8 k8] 26)) A7 l.length l) := ⟨Kd.C_below HR.out b2.out⟩
  generalize w.alloc (Obj.cells #[Value.int IntKind.i64 x0, Value.int IntKind.i64 M, Value.int IntKind.i64 G, Value.int IntKind.i64 x3, Value.int IntKind.i64 x4, Value.int IntKind.i64 x5, Value.slice A6 n6 k6, Value.slice A7 l.length k7, Value.slice A8 n8 k8] 26) = wa at *
  refine (PlanNew.new_calls x0 M G x3 x4 x5 A6 A7 A8 n6 k6 k7 n8 k8 l _ HR1.out HW.out).mono ?_
  generalize hE : newE M G l = E
  rintro e w1 ⟨hB, h⟩
  rcases h with ⟨hne, rfl⟩ | ⟨h0, g, rfl, hg, hP⟩
  · skip
    have hbr : w1.heap[w.heap.size]? = _ := (hB.block w.heap.size (blk_lt b1.out)).trans b1.out
    have c0 : w1.cell? ⟨w.heap.size, 0, none⟩ = some (Value.int IntKind.i64 x0) := (blk_cell hbr 0).trans rfl
    have c1 : w1.cell? ⟨w.heap.size, 1, none⟩ = some (Value.int IntKind.i64 M) := (blk_cell hbr 1).trans rfl
    have c2 : w1.cell? ⟨w.heap.size, 2, none⟩ = some (Value.int IntKind.i64 G) := (blk_cell hbr 2).trans rfl
    have c3 : w1.cell? ⟨w.heap.size, 3, none⟩ = some (Value.int IntKind.i64 x3) := (blk_cell hbr 3).trans rfl
    have c4 : w1.cell? ⟨w.heap.size, 4, none⟩ = some (Value.int IntKind.i64 x4) := (blk_cell hbr 4).trans rfl
    have c5 : w1.cell? ⟨w.heap.size, 5, none⟩ = some (Value.int IntKind.i64 x5) := (blk_cell hbr 5).trans rfl
    have c6 : w1.cell? ⟨w.heap.size, 6, none⟩ = some (Value.slice A6 n6 k6) := (blk_cell hbr 6).trans rfl
    have c7 : w1.cell? ⟨w.heap.size, 7, none⟩ = some (Value.slice A7 l.length k7) := (blk_cell hbr 7).trans rfl
    have c8 : w1.cell? ⟨w.heap.size, 8, none⟩ = some (Value.slice A8 n8 k8) := (blk_cell hbr 8).trans rfl
    have HB := Aside0.mk (below_step b2.out hB)
    have HC1 := Aside0.mk (Kd.C_below HR1.out hB)
    have hlt1 := blk_lt hbr
    clear hbr
    go_wp2_with fail
    refine (PlanRNew.new_calls x0 M G x3 x4 x5 A6 A7 A8 n6 k6 k7 n8 k8 l _ HC1.out HW.out).mono ?_
    rw [hE]
    rintro e w2 ⟨hB2, h⟩
    rcases h with ⟨hne, rfl⟩ | ⟨h0, g, rfl, hg, hP⟩
    · have HB2 := Aside0.mk (below_step HB.out hB2)
      clear hE hB hB2 HB
      go_wp2_with fail
      go_ret
      exact ⟨rfl, HB2.out⟩
    · exact absurd h0 hne
  · subst h0
    have hbr : w1.heap[w.heap.size]? = _ := (hB.block w.heap.size (blk_lt b1.out)).trans b1.out
    have c0 : w1.cell? ⟨w.heap.size, 0, none⟩ = some (Value.int IntKind.i64 x0) := (blk_cell hbr 0).trans rfl
    have c1 : w1.cell? ⟨w.heap.size, 1, none⟩ = some (Value.int IntKind.i64 M) := (blk_cell hbr 1).trans rfl
    have c2 : w1.cell? ⟨w.heap.size, 2, none⟩ = some (Value.int IntKind.i64 G) := (blk_cell hbr 2).trans rfl
    have c3 : w1.cell? ⟨w.heap.size, 3, none⟩ = some (Value.int IntKind.i64 x3) := (blk_cell hbr 3).trans rfl
    have c4 : w1.cell? ⟨w.heap.size, 4, none⟩ = some (Value.int IntKind.i64 x4) := (blk_cell hbr 4).trans rfl
    have c5 : w1.cell? ⟨w.heap.size, 5, none⟩ = some (Value.int IntKind.i64 x5) := (blk_cell hbr 5).trans rfl
    have c6 : w1.cell? ⟨w.heap.size, 6, none⟩ = some (Value.slice A6 n6 k6) := (blk_cell hbr 6).trans rfl
    have c7 : w1.cell? ⟨w.heap.size, 7, none⟩ = some (Value.slice A7 l.length k7) := (blk_cell hbr 7).trans rfl
    have c8 : w1.cell? ⟨w.heap.size, 8, none⟩ = some (Value.slice A8 n8 k8) := (blk_cell hbr 8).trans rfl
    have HB := Aside0.mk (below_step b2.out hB)
    have HC1 := Aside0.mk (Kd.C_below HR1.out hB)
    have hlt1 := blk_lt hbr
    clear hbr
    have HP := Aside0.mk hP
    have HF := Aside0.mk (fit_of hE).1
    have HE := Aside0.mk hE
    clear hE hP hB
    go_wp2_with fail
    refine (PlanRNew.new_calls x0 M G x3 x4 x5 A6 A7 A8 n6 k6 k7 n8 k8 l _ HC1.out HW.out).mono ?_
    rw [HE.out]
    rintro e w2 ⟨hB2, h⟩
    rcases h with ⟨hne, rfl⟩ | ⟨h0, g2, rfl, hg2, hP2⟩
    · exact absurd rfl hne
    · have HB2 := Aside0.mk (below_step HB.out hB2)
      have HP1 := Aside0.mk (HP.out.below hB2)
      have HP2 := Aside0.mk hP2
      clear hB2 hP2 HB HP h0 HE
      go_wp2_with fail
      refine (at_calls g M G l _ t HP1.out HF.out).mono ?_
      rintro e w3 ⟨rfl, hB⟩
      have HP3 := Aside0.mk (HP1.out.below hB)
      have HQ3 := Aside0.mk (HP2.out.below hB)
      have HB3 := Aside0.mk (below_step HB2.out hB)
      clear hB HP1 HP2 HB2
      generalize hR : (atR M l t) = R
      have HR1 := Aside0.mk hR
      clear hR
      obtain ⟨a, b, ok⟩ := R
      go_wp2_with fail
      refine (rat_calls g2 M G l _ t HQ3.out HF.out).mono ?_
      rw [HR1.out]
      rintro e w4 ⟨rfl, hB⟩
      have HP4 := Aside0.mk (HP3.out.below hB)
      have HQ4 := Aside0.mk (HQ3.out.below hB)
      have HB4 := Aside0.mk (below_step HB3.out hB)
      clear hB HP3 HQ3 HB3 HR1
      go_wp2_with fail
      refine (start_calls g M G l _ major i HP4.out HF.out).mono ?_
      rintro e w5 ⟨rfl, hB⟩
      have HP5 := Aside0.mk (HP4.out.below hB)
      have HQ5 := Aside0.mk (HQ4.out.below hB)
      have HB5 := Aside0.mk (below_step HB4.out hB)
      clear hB HP4 HQ4 HB4
      generalize hR : (startS M l major i) = R
      have HR1 := Aside0.mk hR
      clear hR
      obtain ⟨s, f⟩ := R
      go_wp2_with fail
      refine (rstart_calls g2 M G l _ major i HQ5.out HF.out).mono ?_
      rw [HR1.out]
      rintro e w6 ⟨rfl, hB⟩
      have HP6 := Aside0.mk (HP5.out.below hB)
      have HQ6 := Aside0.mk (HQ5.out.below hB)
      have HB6 := Aside0.mk (below_step HB5.out hB)
      clear hB HP5 HQ5 HB5 HR1
      go_wp2_with fail
      refine (next_calls g M G l _ t HP6.out HF.out).mono ?_
      rintro e w7 ⟨rfl, hB⟩
      have HP7 := Aside0.mk (HP6.out.below hB)
      have HQ7 := Aside0.mk (HQ6.out.below hB)
      have HB7 := Aside0.mk (below_step HB6.out hB)
      clear hB HP6 HQ6 HB6
      generalize hR : (nextR M l t) = R
      have HR1 := Aside0.mk hR
      clear hR
      obtain ⟨m, n, h⟩ := R
      go_wp2_with fail
      refine (rnext_calls g2 M G l _ t HQ7.out HF.out).mono ?_
      rw [HR1.out]
      rintro e w8 ⟨rfl, hB⟩
      have HB8 := Aside0.mk (below_step HB7.out hB)
      clear hB HP7 HQ7 HB7 HR1
      go_wp2_with fail
      go_ret
      exact ⟨rfl, HB8.out⟩
theorem walk (x0 M G x3 x4 x5 : Int) (A6 : Option Addr) (n6 k6 : Nat) (A7 : Option Addr) (n7 k7 : Nat) (X : Nat → Nat → Int) (A8 : Option Addr) (n8 k8 : Nat) (t major i : Int) (w : World) (h : AidRows.Recs w A7 n7 [.i64, .i64, .i64] X) (hn : n7 * 24 ≤ 140737488351232)
    (_ : (Lit.int .i64 t).wf = true) (_ : (Lit.int .i64 major).wf = true) (_ : (Lit.int .i64 i).wf = true) :
    Calls Try.prog 4 #[.agg #[.int .i64 x0, .int .i64 M, .int .i64 G, .int .i64 x3, .int .i64 x4, .int .i64 x5, .slice A6 n6 k6, .slice A7 n7 k7, .slice A8 n8 k8], .int .i64 t, .int .i64 major, .int .i64 i] w fun e w' => e = .returned (.bool true) ∧ Below w.heap.size w w' := by
  have := tells x0 M G x3 x4 x5 t major i A6 A7 A8 n6 k6 k7 n8 k8 (PlanRec.wins n7 X) w (PlanRec.wins_row h hn) (PlanRec.wins_bound h)
  rwa [PlanRec.wins_length] at this
end Go.Proofs.Ytigifaccmcggdaa.PlanLawTells
