/- The example works: the walk of function works. -/
import Derived.Test.YtigifaccmcggdaaPlanBudget
import Derived.Test.YtigifaccmcggdaaPlanNew
import Derived.Test.YtigifaccmcggdaaPlanEx
namespace Go.Proofs.Ytigifaccmcggdaa.PlanWorks
open Go.RowKit Go.Proofs.Ytigifaccmcggdaa.PPlanCycles Go.Proofs.YtigifaccmcggdaaW.PrintWords Go.Proofs.YtigifaccmcggdaaW.PrintLast Go.Proofs.YtigifaccmcggdaaW.PrintMore Go.Proofs.Ytigifaccmcggdaa.Aid Go.Proofs.Ytigifaccmcggdaa.PlanBase Go.Proofs.Ytigifaccmcggdaa.PlanAt Go.Proofs.Ytigifaccmcggdaa.PlanStart Go.Proofs.Ytigifaccmcggdaa.PlanCalls Go.Proofs.Ytigifaccmcggdaa.PlanBudget

def ex : List S35 := [⟨0, 0, 300⟩, ⟨1, 500, 100⟩]
theorem ex_new : newE 1000 60 ex = 0 := by simp [newE, chk, ex]
set_option maxHeartbeats 1600000 in
set_option maxRecDepth 100000 in
theorem works_calls (w : World) : Calls Try.prog 20 #[] w fun e w' => e = .returned (.bool true) ∧ Below w.heap.size w w' := by
  go_enter Try.func20, Try.ntmps20
  go_wp2_with fail
  refine (PlanEx.example_calls w).mono ?_
  rintro e w1 ⟨v6, v7, v8, rfl, h6, h7, h8, hB⟩
  obtain ⟨A6, k6, rfl⟩ := Kd.R_slice h6
  obtain ⟨A7, k7, rfl, hk7, hC⟩ := Kd.R_reads h7
  obtain ⟨A8, k8, rfl⟩ := Kd.R_slice h8
  have HB := Aside0.mk hB
  have HC := Aside0.mk hC
  clear h6 h7 h8 hB hC
  go_wp2_with fail
  refine (PlanNew.new_calls 0 1000 60 0 0 0 A6 A7 A8 0 k6 k7 0 k8 ex w1 HC.out (by unfold ex; intro x hx; simp at hx; rcases hx with rfl | rfl <;> simp)).mono ?_
  rw [ex_new]
  rintro e w2 ⟨hB, h⟩
  rcases h with ⟨hne, rfl⟩ | ⟨h0, g, rfl, hg, hP⟩
  · exact absurd rfl hne
  have HB2 := Aside0.mk (below_step HB.out hB)
  have HP := Aside0.mk hP
  have HF := Aside0.mk (fit_of ex_new).1
  clear hB hP h0 HB HC
  go_wp2_with fail
  refine (at_calls g 1000 60 ex _ 2510 HP.out HF.out).mono ?_
  rw [show atR 1000 ex 2510 = (2, 1, true) by decide]
  rintro e w3 ⟨rfl, hB⟩
  have HP3 := Aside0.mk (HP.out.below hB)
  have HB3 := Aside0.mk (below_step HB2.out hB)
  clear hB HP HB2
  go_wp2_with fail
  refine (next_calls g 1000 60 ex _ 2510 HP3.out HF.out).mono ?_
  rw [show nextR 1000 ex 2510 = (3, 0, 0) by decide]
  rintro e w4 ⟨rfl, hB⟩
  have HP4 := Aside0.mk (HP3.out.below hB)
  have HB4 := Aside0.mk (below_step HB3.out hB)
  clear hB HP3 HB3
  go_wp2_with fail
  refine (start_calls g 1000 60 ex _ 3 1 HP4.out HF.out).mono ?_
  rw [show startS 1000 ex 3 1 = (3500, 0) by decide]
  rintro e w5 ⟨rfl, hB⟩
  have HP5 := Aside0.mk (HP4.out.below hB)
  have HB5 := Aside0.mk (below_step HB4.out hB)
  clear hB HP4 HB4
  go_wp2_with fail
  refine (budget_calls g 1000 60 0 ex _ HP5.out HF.out (by omega) (by omega)).mono ?_
  rw [show budget 60 ex 0 = 200 by decide]
  rintro e w6 ⟨rfl, hB⟩
  have HB6 := Aside0.mk (below_step HB5.out hB)
  clear hB HP5 HB5
  go_wp2_with fail
  go_ret
  exact ⟨rfl, HB6.out⟩
end Go.Proofs.Ytigifaccmcggdaa.PlanWorks
