/- An argument that is a slice of records of two whole numbers and a slice of bytes (an image's sections): what is read of it. No program here. -/
import Derived.Test.YtiinflgoflkomaaAidCfg
namespace Go.Proofs.Ytiinflgoflkomaa.AidImg
set_option linter.unusedVariables false
open Go.ChangeShapes Go.WideShapes Go.Deep Go.RowKit Go.Proofs.Ytiinflgoflkomaa.AidCfg
/-- A row of bytes. -/
def Bytes (w : World) (A : Option Addr) (n : Nat) (z : Nat → Int) : Prop :=
  ∀ j, j < n → ∃ b off, A = some ⟨b, off, none⟩ ∧ w.cell? ⟨b, off + j, none⟩ = some (.int .u8 (z j)) ∧ (Lit.int .u8 (z j)).wf = true
/-- A section. -/
structure Sec where
  pg : Int
  pm : Int
  A : Option Addr
  n : Nat
  c : Nat
  z : Nat → Int
def SecAt (w : World) (A : Option Addr) (i : Nat) (s : Sec) : Prop :=
  (∃ b off, A = some ⟨b, off, none⟩ ∧ w.cell? ⟨b, off + i * 3, none⟩ = some (.int .i64 s.pg) ∧ w.cell? ⟨b, off + i * 3 + 1, none⟩ = some (.int .i64 s.pm) ∧ w.cell? ⟨b, off + i * 3 + 2, none⟩ = some (.slice s.A s.n s.c)) ∧
    s.n ≤ s.c ∧ s.c ≤ maxLen ∧ (Lit.int .i64 s.pg).wf = true ∧ (Lit.int .i64 s.pm).wf = true ∧ Bytes w s.A s.n s.z
def Secs (w : World) (A : Option Addr) (n : Nat) (S : Nat → Sec) : Prop := ∀ i, i < n → SecAt w A i (S i)
section
variable {H : Type} {enc : TypeId × Value → H} {P : Program} {W : World} {base : Nat} {spare : Nat → Bool} {held : Bool}
theorem bytes_of {t e : TypeId} {fuel : Nat} {A : Option Addr} {n c : Nat} {x : DataW H × List MemPlace} (ht : P.underlying t = some (.slice e)) (he : P.underlying e = some (.int .u8)) (hC : P.cellsOf e = 1)
    (h : DataW.trod enc P W base spare held fuel t [.slice A n c] = some x) : n ≤ c ∧ c ≤ maxLen ∧ ∃ z, Bytes W A n z := by
  rcases open_slice ht h with ⟨hcs, _⟩ | ⟨ad, l, cp, m, k, D, Pl, hcs, _, hl, hcm, hm, _, hi⟩
  · simp at hcs
    obtain ⟨rfl, rfl, rfl⟩ := hcs
    exact ⟨Nat.le_refl _, Nat.zero_le _, fun _ => 0, fun j hj => absurd hj (by omega)⟩
  · simp at hcs
    obtain ⟨rfl, rfl, rfl⟩ := hcs
    have hlm : n ≤ m := by
      rw [hm]
      split
      · exact hl
      · exact Nat.le_refl _
    have key : ∀ j, j < n → ∃ v, W.cell? (ad.add j) = some (.int .u8 v) ∧ (Lit.int .u8 v).wf = true := fun j hj => by
      obtain ⟨cs', hc, ht'⟩ := hi j (by omega)
      rw [hC, Nat.mul_one] at hc
      obtain ⟨_, hcl, hat⟩ := World.cells?_some hc
      match cs', hcl with
      | [y], _ =>
        obtain ⟨v, hv, _, hw⟩ := DataW.trod_int he ht'
        have hv1 : y = .int .u8 v := by simpa using hv
        have h0 := hat 0 (by omega)
        rw [hv1] at h0
        refine ⟨v, ?_, hw⟩
        simpa [Addr.add] using h0
    refine ⟨hl, hcm, fun j => match W.cell? (ad.add j) with
      | some (.int _ v) => v
      | _ => 0, fun j hj => ?_⟩
    obtain ⟨v0, h0, _⟩ := key 0 (by omega)
    obtain ⟨v, hcell, hw⟩ := key j hj
    obtain ⟨b, off, spot⟩ := ad
    have hs : spot = none := by
      have h1 : (⟨b, off, spot⟩ : Addr).add 0 = ⟨b, off, spot⟩ := by simp [Addr.add]
      rw [h1] at h0
      exact World.cell?_spot h0
    subst hs
    refine ⟨b, off, rfl, ?_, ?_⟩
    · simp only [hcell]
      have h2 := hcell
      rw [Go.WideShapes.add_plain] at h2
      exact h2
    · simp only [hcell]
      exact hw
theorem weightsAll_mem {e : TypeId} {d : DataW H} : ∀ {l : List (DataW H)}, d ∈ l → ∀ n ∈ d.weights P e, n ∈ DataW.weightsAll P e l
  | [], h, _, _ => absurd h (by simp)
  | x :: r, h, n, hn => by
    simp only [DataW.weightsAll, List.mem_append]
    rcases List.mem_cons.1 h with rfl | h
    · exact .inl hn
    · exact .inr (weightsAll_mem h n hn)
theorem bytes_sized {t e : TypeId} {fuel : Nat} {A : Option Addr} {n c : Nat} {x : DataW H × List MemPlace} (ht : P.underlying t = some (.slice e)) (hB : P.bytesOf e = 1)
    (h : DataW.trod enc P W base spare held fuel t [.slice A n c] = some x) (hw : ∀ k ∈ x.1.weights P t, k ≤ reachBytes) : n ≤ 140737488351232 := by
  rcases open_slice ht h with ⟨hcs, _⟩ | ⟨ad, l, cp, m, k, D, Pl, hcs, _, hl, hcm, hm, hx, hi⟩
  · simp at hcs
    obtain ⟨rfl, rfl, rfl⟩ := hcs
    omega
  · simp at hcs
    obtain ⟨rfl, rfl, rfl⟩ := hcs
    subst hx
    have z := hw _ (show (((List.range n).map D).length + ((List.range (m - n)).map fun j => D (n + j)).length) * P.bytesOf e ∈ _ by simp only [DataW.weights, ht]; exact List.mem_cons_self)
    rw [hB] at z
    simp only [List.length_map, List.length_range] at z
    have : reachBytes = 140737488351232 := rfl
    omega
theorem secs_of {t e tb eb : TypeId} {f0 f1 f2 : Field} {a : Option Addr} {len cap : Nat} {d : DataW H} {ps : List MemPlace} (ht : P.underlying t = some (.slice e)) (he : P.underlying e = some (.struct #[f0, f1, f2]))
    (hone : oneCellFields P #[f0, f1, f2] = true) (hC : P.cellsOf e = 3) (h0 : P.underlying f0.type = some (.int .i64)) (h1 : P.underlying f1.type = some (.int .i64)) (g2 : f2.type = tb) (h2 : P.underlying tb = some (.slice eb)) (hb : P.underlying eb = some (.int .u8)) (hcb : P.cellsOf eb = 1) (hbb : P.bytesOf eb = 1)
    (h : DataW.Trod enc P W base spare held t (.slice a len cap) d ps) (hwt : ∀ k ∈ d.weights P t, k ≤ reachBytes) : len ≤ cap ∧ cap ≤ maxLen ∧ ∃ S, Secs W a len S ∧ ∀ i, i < len → (S i).n ≤ 140737488351232 := by
  obtain ⟨fuel, hf⟩ := h
  rcases open_slice ht hf with ⟨hcs, _⟩ | ⟨ad, l, c, m, n, D, Pl, hcs, _, hl, hcm, hm, hxx, hi⟩
  · simp [Value.cells] at hcs
    obtain ⟨rfl, rfl, rfl⟩ := hcs
    exact ⟨Nat.le_refl _, Nat.zero_le _, fun _ => ⟨0, 0, none, 0, 0, fun _ => 0⟩, fun i hi => absurd hi (by omega), fun i hi => absurd hi (by omega)⟩
  · simp [Value.cells] at hcs
    obtain ⟨rfl, rfl, rfl⟩ := hcs
    have hlm : len ≤ m := by
      rw [hm]
      split
      · exact hl
      · exact Nat.le_refl _
    have spot0 : 0 < len → ∃ b off, ad = ⟨b, off, none⟩ := fun h0 => by
      obtain ⟨cs', hc, _⟩ := hi 0 (by omega)
      rw [hC] at hc
      obtain ⟨_, hcl, hat⟩ := World.cells?_some hc
      have a0 := hat 0 (by omega)
      obtain ⟨bb, off, spot⟩ := ad
      have e1 : ((⟨bb, off, spot⟩ : Addr).add (0 * 3)).add 0 = ⟨bb, off, spot⟩ := by simp [Addr.add]
      rw [e1] at a0
      match cs', hcl with
      | [k0, k1, k2], _ =>
        have hs : spot = none := World.cell?_spot a0
        subst hs
        exact ⟨bb, off, rfl⟩
    have key : ∀ i, i < len → ∃ s : Sec, SecAt W (some ad) i s ∧ s.n ≤ 140737488351232 := fun i hi' => by
      obtain ⟨cs', hc, ht'⟩ := hi i (by omega)
      rw [hC] at hc
      obtain ⟨_, hcl, hat⟩ := World.cells?_some hc
      match cs', hcl with
      | [k0, k1, k2], _ =>
        obtain ⟨xs, n', _, hx, _, hlen, hg⟩ := DataW.trod_struct he ht'
        match xs, hlen with
        | [y0, y1, y2], _ =>
          have q : ∀ (j : Nat) (f : Field), (#[f0, f1, f2] : Array Field)[j]? = some f → DataW.trod enc P W base spare held n' f.type (([k0, k1, k2].drop j).take 1) = [y0, y1, y2][j]? := by
            intro j f hj
            obtain ⟨o, k⟩ := hone_of hone j f hj
            have := hg j f hj
            rw [o, k] at this
            simpa using this
          obtain ⟨x0, rfl, w0⟩ := one_int h0 (q 0 f0 rfl)
          obtain ⟨x1, rfl, w1⟩ := one_int h1 (q 1 f1 rfl)
          obtain ⟨A2, n2, c2, rfl, z2⟩ := one_slice h2 (g2 ▸ q 2 f2 rfl)
          obtain ⟨fu, hz⟩ := z2
          obtain ⟨b1, b2, z, hzz⟩ := bytes_of h2 hb hcb hz
          have a0 := hat 0 (by omega)
          have a1 := hat 1 (by omega)
          have a2 := hat 2 (by omega)
          obtain ⟨bb, off, rfl⟩ := spot0 (by omega)
          rw [Go.WideShapes.add_plain, Go.WideShapes.add_plain] at a0 a1 a2
          refine ⟨⟨x0, x1, A2, n2, c2, z⟩, ⟨⟨bb, off, rfl, by simpa using a0, by simpa using a1, by simpa using a2⟩, b1, b2, w0, w1, hzz⟩, ?_⟩
          refine bytes_sized h2 hbb hz (fun k hk => hwt k ?_)
          have hd : d = .slice ((List.range len).map D) ((List.range (m - len)).map fun j => D (len + j)) := (Prod.mk.inj hxx).1
          have hD : D i = .agg [y0.1, y1.1, y2.1] := by simpa using (Prod.mk.inj hx).1
          rw [hd]
          simp only [DataW.weights, ht]
          refine List.mem_cons_of_mem _ (List.mem_append_left _ (weightsAll_mem (List.mem_map.2 ⟨i, List.mem_range.2 hi', rfl⟩) k ?_))
          rw [hD]
          simp only [DataW.weights, he]
          exact DataW.weights_mem_each (j := 2) (t := tb) (d := y2.1) (by simp [g2]) rfl k hk
    exact ⟨hl, hcm, fun i => if h : i < len then (key i h).choose else ⟨0, 0, none, 0, 0, fun _ => 0⟩, fun i hi' => by
      show SecAt W (some ad) i (if h : i < len then (key i h).choose else ⟨0, 0, none, 0, 0, fun _ => 0⟩)
      rw [dif_pos hi']
      exact (key i hi').choose_spec.1, fun i hi' => by
      show (if h : i < len then (key i h).choose else (⟨0, 0, none, 0, 0, fun _ => 0⟩ : Sec)).n ≤ _
      rw [dif_pos hi']
      exact (key i hi').choose_spec.2⟩
/-- An image, by value. -/
theorem open_img {r : Reach} {b0 : Nat} {t t1 e : TypeId} {f0 f1 : Field} {v : Value} {d : DataW H} {p : List MemPlace} (hs : P.underlying t = some (.struct #[f0, f1])) (hone : oneCellFields P #[f0, f1] = true) (hC : P.cellsOf t = 2)
    (h0 : P.underlying f0.type = some (.int .u32)) (g1 : f1.type = t1) (h1 : P.underlying t1 = some (.slice e)) (hv : Value.okWide P W r b0 t v) (h : DataW.Trod enc P W base spare held t v d p) :
    ∃ (x : Int) (A : Option Addr) (n c : Nat) (ds : List (DataW H)) (d1 : DataW H) (p1 : List MemPlace), v = .agg #[.int .u32 x, .slice A n c] ∧ (Lit.int .u32 x).wf = true ∧ DataW.Trod enc P W base spare held t1 (.slice A n c) d1 p1 ∧ d = .agg ds ∧ ds[1]? = some d1 := by
  obtain ⟨cs, rfl, hsz⟩ := okWide_struct hs hv
  obtain ⟨l⟩ := cs
  match l, hsz.trans hC with
  | [k0, k1], _ =>
    obtain ⟨fuel, hf⟩ := h
    obtain ⟨xs, n, _, hx, _, hlen, hg⟩ := DataW.trod_struct hs hf
    match xs, hlen with
    | [y0, y1], _ =>
      simp only [Prod.mk.injEq] at hx
      have q : ∀ (j : Nat) (f : Field), (#[f0, f1] : Array Field)[j]? = some f → DataW.trod enc P W base spare held n f.type (([k0, k1].drop j).take 1) = [y0, y1][j]? := by
        intro j f hj
        obtain ⟨o, k⟩ := hone_of hone j f hj
        have := hg j f hj
        rw [o, k] at this
        simpa [Value.cells] using this
      obtain ⟨x, hx0, _, w0⟩ := DataW.trod_int h0 (q 0 f0 rfl)
      obtain ⟨A, m, c, rfl, z⟩ := one_slice h1 (g1 ▸ q 1 f1 rfl)
      have hk : k0 = .int .u32 x := by simpa using hx0
      subst hk
      exact ⟨x, A, m, c, [y0.1, y1.1], y1.1, y1.2, rfl, w0, z, by simpa using hx.1, rfl⟩
end
theorem Bytes.below {w w1 : World} {A : Option Addr} {n : Nat} {z : Nat → Int} (h : Bytes w A n z) (hb : Below w.heap.size w w1) : Bytes w1 A n z := fun j hj => by
  obtain ⟨b, off, e, hc, hw⟩ := h j hj
  exact ⟨b, off, e, (hb.cell (World.block_lt_of_cell? w _ hc)).trans hc, hw⟩
theorem Secs.below {w w1 : World} {A : Option Addr} {n : Nat} {S : Nat → Sec} (h : Secs w A n S) (hb : Below w.heap.size w w1) : Secs w1 A n S := fun i hi => by
  obtain ⟨⟨b, off, e, h0, h1, h2⟩, r1, r2, r3, r4, r5⟩ := h i hi
  exact ⟨⟨b, off, e, (hb.cell (World.block_lt_of_cell? w _ h0)).trans h0, (hb.cell (World.block_lt_of_cell? w _ h1)).trans h1, (hb.cell (World.block_lt_of_cell? w _ h2)).trans h2⟩, r1, r2, r3, r4, r5.below hb⟩
end Go.Proofs.Ytiinflgoflkomaa.AidImg
