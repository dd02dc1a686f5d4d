/- SchedPlays' walk in the row's form. -/
import Derived.Test.YtagnlbpndldfeaaSLawPlays
namespace Go.Proofs.Ytagnlbpndldfeaa.SPlaysWalk
open Go.RowKit Go.Proofs.Ytagnlbpndldfeaa.PSchedPlays Go.Proofs.Ytagnlbpndldfeaa.AidRows
theorem walk (x0 M G x3 x4 x5 : Int) (A6 : Option Addr) (n6 k6 : Nat) (A7 : Option Addr) (n7 k7 : Nat) (X : Nat → Nat → Int) (A8 : Option Addr) (n8 k8 : Nat) (a1 : Option Addr) (len1 cap1 : Nat) (X1 : Nat → Nat → Int) (w : World) (h : Recs w A7 n7 [.i64, .i64, .i64] X) (hn : n7 * 24 ≤ 140737488351232) (h1 : Recs w a1 len1 [.i64, .i64] X1) (hn1 : len1 * 16 ≤ 140737488351232) :
    Calls Try.prog 6 #[.agg #[.int .i64 x0, .int .i64 M, .int .i64 G, .int .i64 x3, .int .i64 x4, .int .i64 x5, .slice A6 n6 k6, .slice A7 n7 k7, .slice A8 n8 k8], .slice a1 len1 cap1] w fun e w' => e = .returned (.bool true) ∧ Below w.heap.size w w' := by
  have := SLawPlays.plays x0 M G x3 x4 x5 A6 A7 A8 n6 k6 k7 n8 k8 (PlanRec.wins n7 X) a1 len1 cap1 X1 w (PlanRec.wins_row h hn) (PlanRec.wins_bound h) (by rw [PlanRec.wins_length]; exact hn) ⟨h1⟩ hn1
  rwa [PlanRec.wins_length] at this
end Go.Proofs.Ytagnlbpndldfeaa.SPlaysWalk
