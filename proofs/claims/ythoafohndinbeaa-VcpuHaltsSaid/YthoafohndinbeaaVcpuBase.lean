/- A processor's context as numbers: its cells, how they read, what a cell set makes of it. No program's walk here. -/
import Derived.Test.YthoafohndinbeaaPVcpuBackx1
import Derived.Test.YthoafohndinbeaaWEqStruct
import Derived.Test.YthoafohndinbeaaAid
namespace Go.Proofs.Ythoafohndinbeaa.VcpuBase
open Go.RowKit Go.Proofs.YthoafohndinbeaaW.PrintWords Go.Proofs.Ythoafohndinbeaa.Aid

/-- A context: the registers, the floats, the place, the control registers, whether it has halted, whether it waits. -/
structure Cx where
  R : Nat → Int
  F : Nat → Int
  pc : Int
  st : Int
  sv : Int
  ca : Int
  ep : Int
  tv : Int
  ve : Int
  sc : Int
  ma : Int
  ha : Int
  id : Bool
/-- The context's cells. -/
def vc (c : Cx) : Array Value := #[Value.int IntKind.u32 (c.R 0), Value.int IntKind.u32 (c.R 1), Value.int IntKind.u32 (c.R 2), Value.int IntKind.u32 (c.R 3), Value.int IntKind.u32 (c.R 4), Value.int IntKind.u32 (c.R 5), Value.int IntKind.u32 (c.R 6), Value.int IntKind.u32 (c.R 7), Value.int IntKind.u32 (c.R 8), Value.int IntKind.u32 (c.R 9), Value.int IntKind.u32 (c.R 10), Value.int IntKind.u32 (c.R 11), Value.int IntKind.u32 (c.R 12), Value.int IntKind.u32 (c.R 13), Value.int IntKind.u32 (c.R 14), Value.int IntKind.u32 (c.R 15), Value.int IntKind.u64 (c.F 0), Value.int IntKind.u64 (c.F 1), Value.int IntKind.u64 (c.F 2), Value.int IntKind.u64 (c.F 3), Value.int IntKind.u64 (c.F 4), Value.int IntKind.u64 (c.F 5), Value.int IntKind.u64 (c.F 6), Value.int IntKind.u64 (c.F 7), Value.int IntKind.u32 (c.pc), Value.int IntKind.u32 (c.st), Value.int IntKind.u32 (c.sv), Value.int IntKind.u32 (c.ca), Value.int IntKind.u32 (c.ep), Value.int IntKind.u32 (c.tv), Value.int IntKind.u32 (c.ve), Value.int IntKind.u32 (c.sc), Value.int IntKind.u32 (c.ma), Value.int IntKind.i64 (c.ha), Value.bool (c.id)]
theorem vc_size (c : Cx) : (vc c).size = 35 := rfl
theorem vc_one (c : Cx) : (vc c).all (·.oneCell') = true := by simp [vc, Value.oneCell']
theorem get0 (c : Cx) : (vc c)[0]? = some (Value.int IntKind.u32 (c.R 0)) := rfl
theorem get1 (c : Cx) : (vc c)[1]? = some (Value.int IntKind.u32 (c.R 1)) := rfl
theorem get2 (c : Cx) : (vc c)[2]? = some (Value.int IntKind.u32 (c.R 2)) := rfl
theorem get3 (c : Cx) : (vc c)[3]? = some (Value.int IntKind.u32 (c.R 3)) := rfl
theorem get4 (c : Cx) : (vc c)[4]? = some (Value.int IntKind.u32 (c.R 4)) := rfl
theorem get5 (c : Cx) : (vc c)[5]? = some (Value.int IntKind.u32 (c.R 5)) := rfl
theorem get6 (c : Cx) : (vc c)[6]? = some (Value.int IntKind.u32 (c.R 6)) := rfl
theorem get7 (c : Cx) : (vc c)[7]? = some (Value.int IntKind.u32 (c.R 7)) := rfl
theorem get8 (c : Cx) : (vc c)[8]? = some (Value.int IntKind.u32 (c.R 8)) := rfl
theorem get9 (c : Cx) : (vc c)[9]? = some (Value.int IntKind.u32 (c.R 9)) := rfl
theorem get10 (c : Cx) : (vc c)[10]? = some (Value.int IntKind.u32 (c.R 10)) := rfl
theorem get11 (c : Cx) : (vc c)[11]? = some (Value.int IntKind.u32 (c.R 11)) := rfl
theorem get12 (c : Cx) : (vc c)[12]? = some (Value.int IntKind.u32 (c.R 12)) := rfl
theorem get13 (c : Cx) : (vc c)[13]? = some (Value.int IntKind.u32 (c.R 13)) := rfl
theorem get14 (c : Cx) : (vc c)[14]? = some (Value.int IntKind.u32 (c.R 14)) := rfl
theorem get15 (c : Cx) : (vc c)[15]? = some (Value.int IntKind.u32 (c.R 15)) := rfl
theorem get16 (c : Cx) : (vc c)[16]? = some (Value.int IntKind.u64 (c.F 0)) := rfl
theorem get17 (c : Cx) : (vc c)[17]? = some (Value.int IntKind.u64 (c.F 1)) := rfl
theorem get18 (c : Cx) : (vc c)[18]? = some (Value.int IntKind.u64 (c.F 2)) := rfl
theorem get19 (c : Cx) : (vc c)[19]? = some (Value.int IntKind.u64 (c.F 3)) := rfl
theorem get20 (c : Cx) : (vc c)[20]? = some (Value.int IntKind.u64 (c.F 4)) := rfl
theorem get21 (c : Cx) : (vc c)[21]? = some (Value.int IntKind.u64 (c.F 5)) := rfl
theorem get22 (c : Cx) : (vc c)[22]? = some (Value.int IntKind.u64 (c.F 6)) := rfl
theorem get23 (c : Cx) : (vc c)[23]? = some (Value.int IntKind.u64 (c.F 7)) := rfl
theorem get24 (c : Cx) : (vc c)[24]? = some (Value.int IntKind.u32 (c.pc)) := rfl
theorem get25 (c : Cx) : (vc c)[25]? = some (Value.int IntKind.u32 (c.st)) := rfl
theorem get26 (c : Cx) : (vc c)[26]? = some (Value.int IntKind.u32 (c.sv)) := rfl
theorem get27 (c : Cx) : (vc c)[27]? = some (Value.int IntKind.u32 (c.ca)) := rfl
theorem get28 (c : Cx) : (vc c)[28]? = some (Value.int IntKind.u32 (c.ep)) := rfl
theorem get29 (c : Cx) : (vc c)[29]? = some (Value.int IntKind.u32 (c.tv)) := rfl
theorem get30 (c : Cx) : (vc c)[30]? = some (Value.int IntKind.u32 (c.ve)) := rfl
theorem get31 (c : Cx) : (vc c)[31]? = some (Value.int IntKind.u32 (c.sc)) := rfl
theorem get32 (c : Cx) : (vc c)[32]? = some (Value.int IntKind.u32 (c.ma)) := rfl
theorem get33 (c : Cx) : (vc c)[33]? = some (Value.int IntKind.i64 (c.ha)) := rfl
theorem get34 (c : Cx) : (vc c)[34]? = some (Value.bool (c.id)) := rfl
theorem ge0 (c : Cx) (h : 0 < (vc c).size) : (vc c)[0] = Value.int IntKind.u32 (c.R 0) := rfl
theorem ge1 (c : Cx) (h : 1 < (vc c).size) : (vc c)[1] = Value.int IntKind.u32 (c.R 1) := rfl
theorem ge2 (c : Cx) (h : 2 < (vc c).size) : (vc c)[2] = Value.int IntKind.u32 (c.R 2) := rfl
theorem ge3 (c : Cx) (h : 3 < (vc c).size) : (vc c)[3] = Value.int IntKind.u32 (c.R 3) := rfl
theorem ge4 (c : Cx) (h : 4 < (vc c).size) : (vc c)[4] = Value.int IntKind.u32 (c.R 4) := rfl
theorem ge5 (c : Cx) (h : 5 < (vc c).size) : (vc c)[5] = Value.int IntKind.u32 (c.R 5) := rfl
theorem ge6 (c : Cx) (h : 6 < (vc c).size) : (vc c)[6] = Value.int IntKind.u32 (c.R 6) := rfl
theorem ge7 (c : Cx) (h : 7 < (vc c).size) : (vc c)[7] = Value.int IntKind.u32 (c.R 7) := rfl
theorem ge8 (c : Cx) (h : 8 < (vc c).size) : (vc c)[8] = Value.int IntKind.u32 (c.R 8) := rfl
theorem ge9 (c : Cx) (h : 9 < (vc c).size) : (vc c)[9] = Value.int IntKind.u32 (c.R 9) := rfl
theorem ge10 (c : Cx) (h : 10 < (vc c).size) : (vc c)[10] = Value.int IntKind.u32 (c.R 10) := rfl
theorem ge11 (c : Cx) (h : 11 < (vc c).size) : (vc c)[11] = Value.int IntKind.u32 (c.R 11) := rfl
theorem ge12 (c : Cx) (h : 12 < (vc c).size) : (vc c)[12] = Value.int IntKind.u32 (c.R 12) := rfl
theorem ge13 (c : Cx) (h : 13 < (vc c).size) : (vc c)[13] = Value.int IntKind.u32 (c.R 13) := rfl
theorem ge14 (c : Cx) (h : 14 < (vc c).size) : (vc c)[14] = Value.int IntKind.u32 (c.R 14) := rfl
theorem ge15 (c : Cx) (h : 15 < (vc c).size) : (vc c)[15] = Value.int IntKind.u32 (c.R 15) := rfl
theorem ge16 (c : Cx) (h : 16 < (vc c).size) : (vc c)[16] = Value.int IntKind.u64 (c.F 0) := rfl
theorem ge17 (c : Cx) (h : 17 < (vc c).size) : (vc c)[17] = Value.int IntKind.u64 (c.F 1) := rfl
theorem ge18 (c : Cx) (h : 18 < (vc c).size) : (vc c)[18] = Value.int IntKind.u64 (c.F 2) := rfl
theorem ge19 (c : Cx) (h : 19 < (vc c).size) : (vc c)[19] = Value.int IntKind.u64 (c.F 3) := rfl
theorem ge20 (c : Cx) (h : 20 < (vc c).size) : (vc c)[20] = Value.int IntKind.u64 (c.F 4) := rfl
theorem ge21 (c : Cx) (h : 21 < (vc c).size) : (vc c)[21] = Value.int IntKind.u64 (c.F 5) := rfl
theorem ge22 (c : Cx) (h : 22 < (vc c).size) : (vc c)[22] = Value.int IntKind.u64 (c.F 6) := rfl
theorem ge23 (c : Cx) (h : 23 < (vc c).size) : (vc c)[23] = Value.int IntKind.u64 (c.F 7) := rfl
theorem ge24 (c : Cx) (h : 24 < (vc c).size) : (vc c)[24] = Value.int IntKind.u32 (c.pc) := rfl
theorem ge25 (c : Cx) (h : 25 < (vc c).size) : (vc c)[25] = Value.int IntKind.u32 (c.st) := rfl
theorem ge26 (c : Cx) (h : 26 < (vc c).size) : (vc c)[26] = Value.int IntKind.u32 (c.sv) := rfl
theorem ge27 (c : Cx) (h : 27 < (vc c).size) : (vc c)[27] = Value.int IntKind.u32 (c.ca) := rfl
theorem ge28 (c : Cx) (h : 28 < (vc c).size) : (vc c)[28] = Value.int IntKind.u32 (c.ep) := rfl
theorem ge29 (c : Cx) (h : 29 < (vc c).size) : (vc c)[29] = Value.int IntKind.u32 (c.tv) := rfl
theorem ge30 (c : Cx) (h : 30 < (vc c).size) : (vc c)[30] = Value.int IntKind.u32 (c.ve) := rfl
theorem ge31 (c : Cx) (h : 31 < (vc c).size) : (vc c)[31] = Value.int IntKind.u32 (c.sc) := rfl
theorem ge32 (c : Cx) (h : 32 < (vc c).size) : (vc c)[32] = Value.int IntKind.u32 (c.ma) := rfl
theorem ge33 (c : Cx) (h : 33 < (vc c).size) : (vc c)[33] = Value.int IntKind.i64 (c.ha) := rfl
theorem ge34 (c : Cx) (h : 34 < (vc c).size) : (vc c)[34] = Value.bool (c.id) := rfl
theorem set24 (c : Cx) (x : Int) : (vc c).setIfInBounds 24 (Value.int IntKind.u32 x) = vc { c with pc := x } := rfl
theorem set25 (c : Cx) (x : Int) : (vc c).setIfInBounds 25 (Value.int IntKind.u32 x) = vc { c with st := x } := rfl
theorem set26 (c : Cx) (x : Int) : (vc c).setIfInBounds 26 (Value.int IntKind.u32 x) = vc { c with sv := x } := rfl
theorem set27 (c : Cx) (x : Int) : (vc c).setIfInBounds 27 (Value.int IntKind.u32 x) = vc { c with ca := x } := rfl
theorem set28 (c : Cx) (x : Int) : (vc c).setIfInBounds 28 (Value.int IntKind.u32 x) = vc { c with ep := x } := rfl
theorem set29 (c : Cx) (x : Int) : (vc c).setIfInBounds 29 (Value.int IntKind.u32 x) = vc { c with tv := x } := rfl
theorem set30 (c : Cx) (x : Int) : (vc c).setIfInBounds 30 (Value.int IntKind.u32 x) = vc { c with ve := x } := rfl
theorem set31 (c : Cx) (x : Int) : (vc c).setIfInBounds 31 (Value.int IntKind.u32 x) = vc { c with sc := x } := rfl
theorem set32 (c : Cx) (x : Int) : (vc c).setIfInBounds 32 (Value.int IntKind.u32 x) = vc { c with ma := x } := rfl
theorem set33 (c : Cx) (x : Int) : (vc c).setIfInBounds 33 (Value.int IntKind.i64 x) = vc { c with ha := x } := rfl
theorem set34 (c : Cx) (x : Bool) : (vc c).setIfInBounds 34 (Value.bool x) = vc { c with id := x } := rfl
section
variable {P : Program}
theorem row_new {w : World} {g : Nat} {t : TypeId} {old : Array Value} (h : w.heap[g]? = some (.cells old t (0, 0))) (cs : Array Value) : (w.setRow g cs).heap[g]? = some (.cells cs t (0, 0)) := setRow_heap w g old cs t _ h
theorem row_far {w : World} {g k : Nat} {o : Obj} (h : w.heap[k]? = some o) (cs : Array Value) (hk : k ≠ g) : (w.setRow g cs).heap[k]? = some o := (setRow_other w g k cs hk).trans h
theorem below_row {w W : World} {g : Nat} (h : Below w.heap.size w W) (hg : w.heap.size ≤ g) (cs : Array Value) : Below w.heap.size w (W.setRow g cs) :=
  h.trans ⟨rfl, rfl, rfl, by simp, fun k hk => setRow_other _ _ _ _ (by omega)⟩
/-- A whole context is read. -/
theorem ld {ops : Array Oper} {rest : List Oper} {o : Oper} {a : Act} {w : World} {Q : Exit → Act → World → Prop} (hgd : o.guard = none) (x : Operand) (ho : o.op = .load 31 x) (g : Nat) (hx : a.eval x = .pointer (some ⟨g, 0, none⟩))
    (c : Cx) (hg : w.heap[g]? = some (.cells (vc c) 31 (0, 0))) (h : wpList Try.prog ops Q rest (a.put o.dst (.agg (vc c))) w) : wpList Try.prog ops Q (o :: rest) a w :=
  wpList_load_row hgd 31 x ho g hx 31 (vc c) (0, 0) _ hg Try.underlying31 rfl (by kernel_rfl) h
/-- The same behind a guard that is met. -/
theorem ldg {ops : Array Oper} {rest : List Oper} {o : Oper} {a : Act} {w : World} {Q : Exit → Act → World → Prop} (hgd : Region.wanted o (yielded ops a.tmps) = true) (x : Operand) (ho : o.op = .load 31 x) (g : Nat) (hx : a.eval x = .pointer (some ⟨g, 0, none⟩))
    (c : Cx) (hg : w.heap[g]? = some (.cells (vc c) 31 (0, 0))) (h : wpList Try.prog ops Q rest (a.put o.dst (.agg (vc c))) w) : wpList Try.prog ops Q (o :: rest) a w :=
  wpList_step fun K hK => by
    rw [if_pos hgd]
    exact wp_load_row 31 x ho g hx 31 (vc c) (0, 0) _ hg Try.underlying31 rfl (by kernel_rfl) (hK _ _ h)
/-- A whole context is written. -/
theorem st {ops : Array Oper} {rest : List Oper} {o : Oper} {a : Act} {w : World} {Q : Exit → Act → World → Prop} (hgd : o.guard = none) (x y : Operand) (ho : o.op = .store 31 x y) (g : Nat) (c : Cx) (hx : a.eval x = .pointer (some ⟨g, 0, none⟩)) (hy : a.eval y = .agg (vc c))
    (c0 : Cx) (hg : w.heap[g]? = some (.cells (vc c0) 31 (0, 0))) (h : wpList Try.prog ops Q rest (a.put o.dst undef) (w.setRow g (vc c))) : wpList Try.prog ops Q (o :: rest) a w :=
  wpList_store_row hgd 31 x y ho g (vc c) hx hy 31 (vc c0) hg (by kernel_rfl) rfl (vc_one c) h
end
/-- The context of noughts. -/
def zc : Cx := ⟨fun _ => 0, fun _ => 0, 0, 0, 0, 0, 0, 0, 0, 0, 0, 0, false⟩
theorem zblk (w : World) (A : Obj) : ((w.alloc A).alloc (.cells #[Value.int IntKind.u32 0, Value.int IntKind.u32 0, Value.int IntKind.u32 0, Value.int IntKind.u32 0, Value.int IntKind.u32 0, Value.int IntKind.u32 0, Value.int IntKind.u32 0, Value.int IntKind.u32 0, Value.int IntKind.u32 0, Value.int IntKind.u32 0, Value.int IntKind.u32 0, Value.int IntKind.u32 0, Value.int IntKind.u32 0, Value.int IntKind.u32 0, Value.int IntKind.u32 0, Value.int IntKind.u32 0, Value.int IntKind.u64 0, Value.int IntKind.u64 0, Value.int IntKind.u64 0, Value.int IntKind.u64 0, Value.int IntKind.u64 0, Value.int IntKind.u64 0, Value.int IntKind.u64 0, Value.int IntKind.u64 0, Value.int IntKind.u32 0, Value.int IntKind.u32 0, Value.int IntKind.u32 0, Value.int IntKind.u32 0, Value.int IntKind.u32 0, Value.int IntKind.u32 0, Value.int IntKind.u32 0, Value.int IntKind.u32 0, Value.int IntKind.u32 0, Value.int IntKind.i64 0, Value.bool false] 31)).heap[w.heap.size + 1]? = some (.cells (vc zc) 31 (0, 0)) := heap_alloc2_new _ _ _
end Go.Proofs.Ythoafohndinbeaa.VcpuBase
