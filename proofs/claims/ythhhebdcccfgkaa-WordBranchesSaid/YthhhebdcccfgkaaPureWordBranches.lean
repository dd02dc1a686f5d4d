/- Every branch is taken or not as the chapter says. No condition. -/
import Derived.Test.YthhhebdcccfgkaaPWordBranchesx1
import Derived.Test.YthhhebdcccfgkaaAid
namespace Go.Proofs.Ythhhebdcccfgkaa.Pure
open Go.RowKit Go.Proofs.Ythhhebdcccfgkaa.PWordBranches Go.Proofs.YthhhebdcccfgkaaW.PrintWords Go.Proofs.YthhhebdcccfgkaaW.PrintLast Go.Proofs.Ythhhebdcccfgkaa.Aid

theorem signed_eq {a : Int} (h0 : 0 ≤ a) (h1 : a < 4294967296) : bulkheadref01_Signed.f a = some (wrap32 a) := by
  unfold bulkheadref01_Signed.f
  rw [w64 (by omega) (by omega)]
  split
  · rw [w64 (by omega) (by omega), w32_of]
    congr 1
    omega
  · rw [w32_of]
    congr 1
    omega
theorem WordBranches : bulkheadlaw01_WordBranches.Pure := by
  intro op a b _ ha hb
  obtain ⟨a0, a1⟩ := u32_bd ha
  obtain ⟨b0, b1⟩ := u32_bd hb
  unfold bulkheadlaw01_WordBranches.f word_Branch.f bulkheadref01_Branch.f
  rw [signed_eq a0 a1, signed_eq b0 b1]
  simp only [Option.bind_some]
  split
  · simp
  split
  · simp
  split
  · simp
  split
  · simp
  split
  · simp
  split
  · simp
  simp

end Go.Proofs.Ythhhebdcccfgkaa.Pure
