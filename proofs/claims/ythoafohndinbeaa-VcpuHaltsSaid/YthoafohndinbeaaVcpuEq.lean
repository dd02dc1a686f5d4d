/- When two contexts are equal: '==' of contexts, of their registers, of their control registers. -/
import Derived.Test.YthoafohndinbeaaVcpuCheck
import Derived.Test.YthoafohndinbeaaWEqStruct
import Derived.ChangeKeysEq
namespace Go.Proofs.Ythoafohndinbeaa.VcpuEq
open Go.RowKit Go.Proofs.Ythoafohndinbeaa.PVcpuBack Go.Proofs.YthoafohndinbeaaW.PrintWords Go.Proofs.Ythoafohndinbeaa.VcpuBase
set_option maxRecDepth 100000
def ra (c : Cx) : Array Value := #[.int .u32 (c.R 0), .int .u32 (c.R 1), .int .u32 (c.R 2), .int .u32 (c.R 3), .int .u32 (c.R 4), .int .u32 (c.R 5), .int .u32 (c.R 6), .int .u32 (c.R 7), .int .u32 (c.R 8), .int .u32 (c.R 9), .int .u32 (c.R 10), .int .u32 (c.R 11), .int .u32 (c.R 12), .int .u32 (c.R 13), .int .u32 (c.R 14), .int .u32 (c.R 15)]
def fa (c : Cx) : Array Value := #[.int .u64 (c.F 0), .int .u64 (c.F 1), .int .u64 (c.F 2), .int .u64 (c.F 3), .int .u64 (c.F 4), .int .u64 (c.F 5), .int .u64 (c.F 6), .int .u64 (c.F 7)]
def rg (c : Cx) : Array Value := #[.int .u32 (c.R 0), .int .u32 (c.R 1), .int .u32 (c.R 2), .int .u32 (c.R 3), .int .u32 (c.R 4), .int .u32 (c.R 5), .int .u32 (c.R 6), .int .u32 (c.R 7), .int .u32 (c.R 8), .int .u32 (c.R 9), .int .u32 (c.R 10), .int .u32 (c.R 11), .int .u32 (c.R 12), .int .u32 (c.R 13), .int .u32 (c.R 14), .int .u32 (c.R 15), .int .u64 (c.F 0), .int .u64 (c.F 1), .int .u64 (c.F 2), .int .u64 (c.F 3), .int .u64 (c.F 4), .int .u64 (c.F 5), .int .u64 (c.F 6), .int .u64 (c.F 7), .int .u32 (c.pc)]
def ct (c : Cx) : Array Value := #[.int .u32 (c.st), .int .u32 (c.sv), .int .u32 (c.ca), .int .u32 (c.ep), .int .u32 (c.tv), .int .u32 (c.ve), .int .u32 (c.sc), .int .u32 (c.ma)]
def regsEq (a b : Cx) : Bool := (List.range 16).all (fun i => a.R i == b.R i) && ((List.range 8).all (fun i => a.F i == b.F i) && (a.pc == b.pc))
def ctlEq (a b : Cx) : Bool := a.st == b.st && (a.sv == b.sv && (a.ca == b.ca && (a.ep == b.ep && (a.tv == b.tv && (a.ve == b.ve && (a.sc == b.sc && (a.ma == b.ma)))))))
def cxEq (a b : Cx) : Bool := regsEq a b && (ctlEq a b && (a.ha == b.ha && a.id == b.id))
theorem regsEq_self (a : Cx) : regsEq a a = true := by simp [regsEq]
theorem ctlEq_self (a : Cx) : ctlEq a a = true := by simp [ctlEq]
theorem cxEq_self (a : Cx) : cxEq a a = true := by simp [cxEq, regsEq_self, ctlEq_self]
section
variable {P : Program} (w : World)
theorem eq_items {e : TypeId} {k : IntKind} (d : Nat) (hu : P.underlying e = some (.int k)) (he : P.plainKey e = true) (xs ys : Array Value) (X Y : Nat → Int) : ∀ (is : List Nat), (∀ i ∈ is, xs[i]? = some (.int k (X i))) → (∀ i ∈ is, ys[i]? = some (.int k (Y i))) →
    (Op.eqItems (d + 1) e 1 xs ys is).run P w = .ok (is.all fun i => X i == Y i) w
  | [], _, _ => by simp [Op.eqItems]
  | i :: is, hx, hy => by
    have p1 := run_part_plain (P := P) w he (hx i (by simp))
    have p2 := run_part_plain (P := P) w he (hy i (by simp))
    have p3 := run_equalIn_int (P := P) w d e k k (X i) (Y i) hu
    have ih := eq_items d hu he xs ys X Y is (fun j hj => hx j (by simp [hj])) (fun j hj => hy j (by simp [hj]))
    simp only [Op.eqItems, Nat.mul_one, Sem.run_bind, p1, p2, p3, Result.andThen_ok, List.all_cons]
    cases (X i == Y i)
    · simp
    · simpa using ih
end
section
variable (d : Nat) (w : World) (a b : Cx)
theorem ra_get (c : Cx) : ∀ i ∈ List.range 16, (ra c)[i]? = some (.int .u32 (c.R i)) := by
  intro i hi
  have : i = 0 ∨ i = 1 ∨ i = 2 ∨ i = 3 ∨ i = 4 ∨ i = 5 ∨ i = 6 ∨ i = 7 ∨ i = 8 ∨ i = 9 ∨ i = 10 ∨ i = 11 ∨ i = 12 ∨ i = 13 ∨ i = 14 ∨ i = 15 := by
    have := List.mem_range.1 hi
    omega
  rcases this with rfl | rfl | rfl | rfl | rfl | rfl | rfl | rfl | rfl | rfl | rfl | rfl | rfl | rfl | rfl | rfl <;> rfl
theorem fa_get (c : Cx) : ∀ i ∈ List.range 8, (fa c)[i]? = some (.int .u64 (c.F i)) := by
  intro i hi
  have : i = 0 ∨ i = 1 ∨ i = 2 ∨ i = 3 ∨ i = 4 ∨ i = 5 ∨ i = 6 ∨ i = 7 := by
    have := List.mem_range.1 hi
    omega
  rcases this with rfl | rfl | rfl | rfl | rfl | rfl | rfl | rfl <;> rfl
theorem part_rg (c : Cx) : (part 27 (vc c) 0).run Try.prog w = .ok (.agg (rg c)) w := by kernel_rfl
theorem part_ct (c : Cx) : (part 29 (vc c) 25).run Try.prog w = .ok (.agg (ct c)) w := by rfl
theorem part_ra (c : Cx) : (part 23 (rg c) 0).run Try.prog w = .ok (.agg (ra c)) w := by rfl
theorem part_fa (c : Cx) : (part 25 (rg c) 16).run Try.prog w = .ok (.agg (fa c)) w := by rfl
theorem eqRg : (Op.equalIn (d + 3) 27 (.agg (rg a)) (.agg (rg b))).run Try.prog w = .ok (regsEq a b) w := by
  refine eqA_of Try.underlying27 (by kernel_rfl) ?_
  refine eqf_cons (by rfl) (part_ra w a) (part_ra w b) ((run_equalIn_array (P := Try.prog) w (d + 1) (ra a) (ra b) Try.underlying23 (by rfl)).trans (eq_items w d Try.underlying22 (by kernel_rfl) (ra a) (ra b) a.R b.R (List.range 16) (ra_get a) (ra_get b))) ?_
  refine eqf_cons (by rfl) (part_fa w a) (part_fa w b) ((run_equalIn_array (P := Try.prog) w (d + 1) (fa a) (fa b) Try.underlying25 (by rfl)).trans (eq_items w d Try.underlying24 (by kernel_rfl) (fa a) (fa b) a.F b.F (List.range 8) (fa_get a) (fa_get b))) ?_
  exact eqf_last (by rfl) (show (part 22 (rg a) 24).run Try.prog w = .ok (.int .u32 a.pc) w by rfl) (show (part 22 (rg b) 24).run Try.prog w = .ok (.int .u32 b.pc) w by rfl) (run_equalIn_int (P := Try.prog) w (d + 1) 22 .u32 .u32 a.pc b.pc Try.underlying22)
theorem eqCt : (Op.equalIn (d + 2) 29 (.agg (ct a)) (.agg (ct b))).run Try.prog w = .ok (ctlEq a b) w := by
  refine eqA_of Try.underlying29 (by kernel_rfl) ?_
  refine eqf_cons (by rfl) (show (part 22 (ct a) 0).run Try.prog w = .ok (.int .u32 a.st) w by rfl) (show (part 22 (ct b) 0).run Try.prog w = .ok (.int .u32 b.st) w by rfl) (run_equalIn_int (P := Try.prog) w d 22 .u32 .u32 a.st b.st Try.underlying22) ?_
  refine eqf_cons (by rfl) (show (part 22 (ct a) 1).run Try.prog w = .ok (.int .u32 a.sv) w by rfl) (show (part 22 (ct b) 1).run Try.prog w = .ok (.int .u32 b.sv) w by rfl) (run_equalIn_int (P := Try.prog) w d 22 .u32 .u32 a.sv b.sv Try.underlying22) ?_
  refine eqf_cons (by rfl) (show (part 22 (ct a) 2).run Try.prog w = .ok (.int .u32 a.ca) w by rfl) (show (part 22 (ct b) 2).run Try.prog w = .ok (.int .u32 b.ca) w by rfl) (run_equalIn_int (P := Try.prog) w d 22 .u32 .u32 a.ca b.ca Try.underlying22) ?_
  refine eqf_cons (by rfl) (show (part 22 (ct a) 3).run Try.prog w = .ok (.int .u32 a.ep) w by rfl) (show (part 22 (ct b) 3).run Try.prog w = .ok (.int .u32 b.ep) w by rfl) (run_equalIn_int (P := Try.prog) w d 22 .u32 .u32 a.ep b.ep Try.underlying22) ?_
  refine eqf_cons (by rfl) (show (part 22 (ct a) 4).run Try.prog w = .ok (.int .u32 a.tv) w by rfl) (show (part 22 (ct b) 4).run Try.prog w = .ok (.int .u32 b.tv) w by rfl) (run_equalIn_int (P := Try.prog) w d 22 .u32 .u32 a.tv b.tv Try.underlying22) ?_
  refine eqf_cons (by rfl) (show (part 22 (ct a) 5).run Try.prog w = .ok (.int .u32 a.ve) w by rfl) (show (part 22 (ct b) 5).run Try.prog w = .ok (.int .u32 b.ve) w by rfl) (run_equalIn_int (P := Try.prog) w d 22 .u32 .u32 a.ve b.ve Try.underlying22) ?_
  refine eqf_cons (by rfl) (show (part 22 (ct a) 6).run Try.prog w = .ok (.int .u32 a.sc) w by rfl) (show (part 22 (ct b) 6).run Try.prog w = .ok (.int .u32 b.sc) w by rfl) (run_equalIn_int (P := Try.prog) w d 22 .u32 .u32 a.sc b.sc Try.underlying22) ?_
  exact eqf_last (by rfl) (show (part 22 (ct a) 7).run Try.prog w = .ok (.int .u32 a.ma) w by rfl) (show (part 22 (ct b) 7).run Try.prog w = .ok (.int .u32 b.ma) w by rfl) (run_equalIn_int (P := Try.prog) w d 22 .u32 .u32 a.ma b.ma Try.underlying22)
theorem eqCx : (Op.equalIn (d + 4) 31 (.agg (vc a)) (.agg (vc b))).run Try.prog w = .ok (cxEq a b) w := by
  refine eqA_of Try.underlying31 (by kernel_rfl) ?_
  refine eqf_cons (by rfl) (part_rg w a) (part_rg w b) (eqRg d w a b) ?_
  refine eqf_cons (by rfl) (part_ct w a) (part_ct w b) (eqCt (d + 1) w a b) ?_
  refine eqf_cons (by rfl) (show (part 3 (vc a) 33).run Try.prog w = .ok (.int .i64 a.ha) w by rfl) (show (part 3 (vc b) 33).run Try.prog w = .ok (.int .i64 b.ha) w by rfl) (run_equalIn_int (P := Try.prog) w (d + 2) 3 .i64 .i64 a.ha b.ha Try.underlying3) ?_
  exact eqf_last (by rfl) (show (part 4 (vc a) 34).run Try.prog w = .ok (.bool a.id) w by rfl) (show (part 4 (vc b) 34).run Try.prog w = .ok (.bool b.id) w by rfl) (run_equalIn_bool' (P := Try.prog) w (d + 2) 4 a.id b.id Try.underlying4)
/-- In the walk's own spelling. -/
theorem eqCx_op : (binOp .eql 31 (.agg (vc a)) (.agg (vc b))).run Try.prog w = .ok (.bool (cxEq a b)) w := by
  rw [run_eql_struct, eqCx 9996 w a b]
  rfl
theorem neCx_op : (binOp .neq 31 (.agg (vc a)) (.agg (vc b))).run Try.prog w = .ok (.bool (!cxEq a b)) w := by
  rw [run_neq_struct, eqCx 9996 w a b]
  rfl
theorem eqRg_op : (binOp .eql 27 (.agg (rg a)) (.agg (rg b))).run Try.prog w = .ok (.bool (regsEq a b)) w := by
  rw [run_eql_struct, eqRg 9997 w a b]
  rfl
theorem eqCt_op : (binOp .eql 29 (.agg (ct a)) (.agg (ct b))).run Try.prog w = .ok (.bool (ctlEq a b)) w := by
  rw [run_eql_struct, eqCt 9998 w a b]
  rfl
end
end Go.Proofs.Ythoafohndinbeaa.VcpuEq
