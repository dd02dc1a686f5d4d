/- An argument that is a record of six whole numbers and three slices (a configuration), by value: opened into its cells. No program here. -/
import Derived.Test.YtiinflgoflkomaaAidRows
namespace Go.Proofs.Ytiinflgoflkomaa.AidCfg
open Go.ChangeShapes Go.WideShapes Go.Deep Go.RowKit Go.Proofs.Ytiinflgoflkomaa.AidRows
section
variable {H : Type} {enc : TypeId × Value → H} {P : Program} {W : World} {base : Nat} {spare : Nat → Bool} {held : Bool}
theorem one_int {n : Nat} {t : TypeId} {v : Value} {y : DataW H × List MemPlace} (hu : P.underlying t = some (.int .i64)) (h : DataW.trod enc P W base spare held n t [v] = some y) : ∃ x : Int, v = .int .i64 x ∧ (Lit.int .i64 x).wf = true := by
  obtain ⟨x, hv, _, hw⟩ := DataW.trod_int hu h
  exact ⟨x, by simpa using hv, hw⟩
theorem one_slice {n : Nat} {t e : TypeId} {v : Value} {y : DataW H × List MemPlace} (hu : P.underlying t = some (.slice e)) (h : DataW.trod enc P W base spare held n t [v] = some y) : ∃ (A : Option Addr) (l c : Nat), v = .slice A l c ∧ DataW.Trod enc P W base spare held t (.slice A l c) y.1 y.2 := by
  have key : ∃ (A : Option Addr) (l c : Nat), v = .slice A l c := by
    rcases DataW.trod_slice hu h with ⟨hv, _⟩ | ⟨a, len, cap, _, _, _, _, hv, _⟩
    · exact ⟨none, 0, 0, by simpa using hv⟩
    · exact ⟨some a, len, cap, by simpa using hv⟩
  obtain ⟨A, l, c, rfl⟩ := key
  exact ⟨A, l, c, rfl, ⟨n, by simpa [Value.cells] using h⟩⟩
theorem open_cfg {r : Reach} {b0 : Nat} {t t6 t7 t8 e6 e7 e8 : TypeId} {f0 f1 f2 f3 f4 f5 f6 f7 f8 : Field} {v : Value} {d : DataW H} {p : List MemPlace} (hs : P.underlying t = some (.struct #[f0, f1, f2, f3, f4, f5, f6, f7, f8]))
    (hone : oneCellFields P #[f0, f1, f2, f3, f4, f5, f6, f7, f8] = true) (hC : P.cellsOf t = 9)
    (h0 : P.underlying f0.type = some (.int .i64)) (h1 : P.underlying f1.type = some (.int .i64)) (h2 : P.underlying f2.type = some (.int .i64)) (h3 : P.underlying f3.type = some (.int .i64)) (h4 : P.underlying f4.type = some (.int .i64)) (h5 : P.underlying f5.type = some (.int .i64))
    (g6 : f6.type = t6) (g7 : f7.type = t7) (g8 : f8.type = t8) (h6 : P.underlying t6 = some (.slice e6)) (h7 : P.underlying t7 = some (.slice e7)) (h8 : P.underlying t8 = some (.slice e8))
    (hv : Value.okWide P W r b0 t v) (h : DataW.Trod enc P W base spare held t v d p) :
    ∃ (x0 x1 x2 x3 x4 x5 : Int) (A6 : Option Addr) (n6 c6 : Nat) (A7 : Option Addr) (n7 c7 : Nat) (A8 : Option Addr) (n8 c8 : Nat) (ds : List (DataW H)) (d6 d7 d8 : DataW H) (p6 p7 p8 : List MemPlace),
      v = .agg #[.int .i64 x0, .int .i64 x1, .int .i64 x2, .int .i64 x3, .int .i64 x4, .int .i64 x5, .slice A6 n6 c6, .slice A7 n7 c7, .slice A8 n8 c8] ∧
      (Lit.int .i64 x0).wf = true ∧ (Lit.int .i64 x1).wf = true ∧ (Lit.int .i64 x2).wf = true ∧ (Lit.int .i64 x3).wf = true ∧ (Lit.int .i64 x4).wf = true ∧ (Lit.int .i64 x5).wf = true ∧
      DataW.Trod enc P W base spare held t6 (.slice A6 n6 c6) d6 p6 ∧ DataW.Trod enc P W base spare held t7 (.slice A7 n7 c7) d7 p7 ∧ DataW.Trod enc P W base spare held t8 (.slice A8 n8 c8) d8 p8 ∧
      d = .agg ds ∧ ds[6]? = some d6 ∧ ds[7]? = some d7 ∧ ds[8]? = some d8 := by
  obtain ⟨cs, rfl, hsz⟩ := okWide_struct hs hv
  obtain ⟨l⟩ := cs
  match l, hsz.trans hC with
  | [k0, k1, k2, k3, k4, k5, k6, k7, k8], _ =>
    obtain ⟨fuel, hf⟩ := h
    obtain ⟨xs, n, _, hx, _, hlen, hg⟩ := DataW.trod_struct hs hf
    match xs, hlen with
    | [y0, y1, y2, y3, y4, y5, y6, y7, y8], _ =>
      simp only [Prod.mk.injEq] at hx
      have q : ∀ (j : Nat) (f : Field), (#[f0, f1, f2, f3, f4, f5, f6, f7, f8] : Array Field)[j]? = some f → DataW.trod enc P W base spare held n f.type (([k0, k1, k2, k3, k4, k5, k6, k7, k8].drop j).take 1) = [y0, y1, y2, y3, y4, y5, y6, y7, y8][j]? := by
        intro j f hj
        obtain ⟨o, k⟩ := hone_of hone j f hj
        have := hg j f hj
        rw [o, k] at this
        simpa [Value.cells] using this
      obtain ⟨x0, rfl, w0⟩ := one_int h0 (q 0 f0 rfl)
      obtain ⟨x1, rfl, w1⟩ := one_int h1 (q 1 f1 rfl)
      obtain ⟨x2, rfl, w2⟩ := one_int h2 (q 2 f2 rfl)
      obtain ⟨x3, rfl, w3⟩ := one_int h3 (q 3 f3 rfl)
      obtain ⟨x4, rfl, w4⟩ := one_int h4 (q 4 f4 rfl)
      obtain ⟨x5, rfl, w5⟩ := one_int h5 (q 5 f5 rfl)
      obtain ⟨A6, n6, c6, rfl, z6⟩ := one_slice h6 (g6 ▸ q 6 f6 rfl)
      obtain ⟨A7, n7, c7, rfl, z7⟩ := one_slice h7 (g7 ▸ q 7 f7 rfl)
      obtain ⟨A8, n8, c8, rfl, z8⟩ := one_slice h8 (g8 ▸ q 8 f8 rfl)
      exact ⟨x0, x1, x2, x3, x4, x5, A6, n6, c6, A7, n7, c7, A8, n8, c8, [y0.1, y1.1, y2.1, y3.1, y4.1, y5.1, y6.1, y7.1, y8.1], y6.1, y7.1, y8.1, y6.2, y7.2, y8.2, rfl, w0, w1, w2, w3, w4, w5, z6, z7, z8, by simpa using hx.1, rfl, rfl, rfl⟩
theorem inner_sized {t : TypeId} {fs : Array Field} {ts : List TypeId} {ds : List (DataW H)} {xs : List (DataW H)} {j : Nat} (hsz : (DataW.weightsEach P ts ds).all (· ≤ reachBytes) = true) (ht : ts[j]? = some t) (hd : ds[j]? = some (.agg xs)) (hs : P.underlying t = some (.struct fs)) :
    (DataW.weightsEach P (fs.toList.map (·.type)) xs).all (· ≤ reachBytes) = true := by
  refine List.all_eq_true.2 fun n hn => ?_
  exact List.all_eq_true.1 hsz n (DataW.weights_mem_each ht hd n (by simp only [DataW.weights, hs]; exact hn))
end
end Go.Proofs.Ytiinflgoflkomaa.AidCfg
