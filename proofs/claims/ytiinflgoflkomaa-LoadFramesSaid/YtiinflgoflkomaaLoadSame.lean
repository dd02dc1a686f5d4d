/- Are two lists of pages the same, two images: the walks, where they are. -/
import Derived.Test.YtiinflgoflkomaaLoadF
import Derived.BigQuiet
namespace Go.Proofs.Ytiinflgoflkomaa.LoadSame
open Go.RowKit Go.Proofs.Ytiinflgoflkomaa.PLoadChecks Go.Proofs.YtiinflgoflkomaaW.PrintWords Go.Proofs.YtiinflgoflkomaaW.PrintLast Go.Proofs.YtiinflgoflkomaaW.PrintMore Go.Proofs.Ytiinflgoflkomaa.Aid
set_option linter.unusedVariables false
set_option linter.unusedSimpArgs false
set_option maxHeartbeats 1600000 in
set_option maxRecDepth 100000 in
theorem pages_same (A0 A1 : Option Addr) (c0 c1 : Nat) (l : List S46) (w : World) (hr0 : Kd.C k46 w A0 l.length l) (hc0 : l.length ≤ c0) (hr1 : Kd.C k46 w A1 l.length l) (hc1 : l.length ≤ c1) (hl : l.length < 140737488355328) :
    Calls Try.prog 12 #[.slice A0 l.length c0, .slice A1 l.length c1] w fun e w' => e = .returned (.bool true) ∧ Drawn0 w w' := by
  have HR0 := Aside0.mk hr0
  have HR1 := Aside0.mk hr1
  have HL := Aside0.mk hl
  have d1 : ((l.length : Int) != (l.length : Int)) = false := by simp
  clear hr0 hr1 hc0 hc1 hl
  go_enter Try.func12, Try.ntmps12
  go_wp2_with fail
  go_loopg [5] l.length (fun k v5 w' => ∃ i : Nat, v5 = .int .i64 (i : Int) ∧ Aside0 (i ≤ l.length ∧ k = l.length - i) ∧ Drawn0 w w')
  case atStart => exact ⟨0, rfl, ⟨Nat.zero_le _, rfl⟩, by repeat (first | exact Drawn0.refl _ | apply Drawn0.step)⟩
  case round =>
    obtain ⟨i, rfl, hi, hd⟩ := hrel
    have HI := hi
    have HD := Aside0.mk hd
    have HR0r : Aside0 (Kd.C k46 wr A0 l.length l) := ⟨by obtain ⟨m, rfl⟩ := hd; exact Kd.C_drewN HR0.out m⟩
    have HR1r : Aside0 (Kd.C k46 wr A1 l.length l) := ⟨by obtain ⟨m, rfl⟩ := hd; exact Kd.C_drewN HR1.out m⟩
    clear d1 hd
    have hi0 := hi.out.1
    by_cases c : i < l.length
    · have e1 : decide ((i : Int) < (l.length : Int)) = true := decide_eq_true (by omega)
      have p0 : 0 ≤ (i : Int) := by omega
      have q0 : (i : Int) < (l.length : Int) := by omega
      obtain ⟨ad, A2, c2, rfl, x0, x1, x2, l2, g2⟩ := at_T46 HR0r.out i p0 q0
      obtain ⟨ad', A2', c2', rfl, y0, y1, y2, l2', g2'⟩ := at_T46 HR1r.out i p0 q0
      rw [Int.toNat_natCast] at x0 x1 x2 y0 y1 y2
      generalize rd_T46 l (i : Int) = s at *
      obtain ⟨pg, pm, b⟩ := s
      have e2 : (pg != pg) = false := by simp
      have e3 : (pm != pm) = false := by simp
      have cv := fun n => Kd.C_string (P := Try.prog) (A := A2) (c := c2) Try.underlying27 Try.underlying5 Try.underlying9 (Kd.C_drewN g2 n)
      have cv' := fun n => Kd.C_string (P := Try.prog) (A := A2') (c := c2') Try.underlying27 Try.underlying5 Try.underlying9 (Kd.C_drewN g2' n)
      have e4 : ((strOfNums b).toList != (strOfNums b).toList) = false := by simp
      have hw : wrap64 ((i : Int) + 1) = ((i + 1 : Nat) : Int) := by
        have := HL.out
        rw [w64 (by omega) (by omega)]
        omega
      have HW := Aside0.mk hw
      have hi' := Aside0.mk c
      clear c hi hi0 hw
      go_wp2
      go_quiet (fail)
      go_wp2
      go_roundg (l.length - (i + 1))
      case measure =>
        have := hi'.out
        have := HI.out.2
        omega
      case rel => exact ⟨i + 1, congrArg _ HW.out, ⟨hi'.out, rfl⟩, by repeat (first | exact HD.out | apply Drawn0.step)⟩
    · have e1 : decide ((i : Int) < (l.length : Int)) = false := decide_eq_false (by omega)
      go_wp2_with fail
      go_ret
      exact ⟨rfl, HD.out⟩
end Go.Proofs.Ytiinflgoflkomaa.LoadSame
