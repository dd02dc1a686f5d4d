/- load.Decode: up to its loop. -/
import Derived.Test.YtiinflgoflkomaaLoadD4
import Derived.Deep.DeepCutAuto
import Derived.Lib.Bytes
namespace Go.Proofs.Ytiinflgoflkomaa.LoadDec
open Go.RowKit Go.Proofs.Ytiinflgoflkomaa.PLoadChecks Go.Proofs.YtiinflgoflkomaaW.PrintWords Go.Proofs.YtiinflgoflkomaaW.PrintLast Go.Proofs.YtiinflgoflkomaaW.PrintMore Go.Proofs.Ytiinflgoflkomaa.Aid Go.Proofs.Ytiinflgoflkomaa.LoadF Go.Proofs.Ytiinflgoflkomaa.LoadSame2 Go.Proofs.Ytiinflgoflkomaa.LoadEnc Go.Proofs.Ytiinflgoflkomaa.LoadPg Go.Proofs.Ytiinflgoflkomaa.LoadPure Go.Proofs.Ytiinflgoflkomaa.LoadD0 Go.Proofs.Ytiinflgoflkomaa.LoadD1 Go.Proofs.Ytiinflgoflkomaa.LoadD2 Go.Proofs.Ytiinflgoflkomaa.LoadD3 Go.Proofs.Ytiinflgoflkomaa.LoadD4 Go.Proofs.Ytiinflgoflkomaa.LoadGet
set_option linter.unusedVariables false
set_option linter.unusedSimpArgs false
/-- The entry and the sections that are answered. -/
def outE (Z : Int × List S45 × Option (Int × Int)) : Int := if Z.2.2 = none then Z.1 else 0
def outS (Z : Int × List S45 × Option (Int × Int)) : List S45 := if Z.2.2 = none then Z.2.1 else []
theorem outE_some (E : Int) (l : List S45) (q : Int × Int) : outE (E, l, some q) = 0 := if_neg (by simp)
theorem outS_some (E : Int) (l : List S45) (q : Int × Int) : outS (E, l, some q) = [] := if_neg (by simp)
theorem outE_none (E : Int) (l : List S45) : outE (E, l, none) = E := if_pos rfl
theorem outS_none (E : Int) (l : List S45) : outS (E, l, none) = l := if_pos rfl
/-- The error that is answered. -/
def ErrV (w : World) (ev : Value) : Option (Int × Int) → Prop
  | none => ev = .nilIface
  | some (x, e) => ∃ gf : Nat, ev = .iface 54 (.pointer (some ⟨gf, 0, none⟩)) ∧ w.heap[gf]? = some (.cells #[.int .i64 x, .iface 28 (.int .i64 e)] 56 (0, 0))
theorem rest_cells {w0 w w' : World} {k : K5} {A : Option Addr} {c : Nat} {b : List Int} {at' : Nat} {f : Option (Int × Int)} (h : RestK k w w') (hD : Dst w0 w k A c b at' f) {j t : Nat} {cs : Array Value} (hj : w.heap[j]? = some (.cells cs t (0, 0))) (h3 : t ≠ 3) (h54 : t ≠ 54) : w'.heap[j]? = some (.cells cs t (0, 0)) := by
  obtain ⟨p, h5, _⟩ := hD.b5
  exact h.cells hj (blk_ne hj hD.b4 h3) h54 h5
theorem dst_far {w0 w : World} {k : K5} {A : Option Addr} {c : Nat} {b : List Int} {at' : Nat} {f : Option (Int × Int)} (h : Dst w0 w k A c b at' f) {g t j : Nat} {cs : Array Value} {u : Value} (hg : w.heap[g]? = some (.cells cs t (0, 0))) (h27 : 27 ≠ t) (h3 : 3 ≠ t) (h5 : t ≠ 54 ∧ t ≠ 56) (h6 : 57 ≠ t ∧ 58 ≠ t) (hl : w0.heap.size ≤ g) : Dst w0 (w.setCell ⟨g, j, none⟩ u) k A c b at' f := by
  obtain ⟨p, q5, hf⟩ := h.b5
  refine ⟨blk_far h.b1 (blk_ne h.b1 hg h27) _, blk_far h.b4 (blk_ne h.b4 hg h3) _, ⟨p, blk_far q5 (blk_ne q5 hg (Ne.symm h5.1)) _, ?_⟩, blk_far h.b6 (blk_ne h.b6 hg h6.1) _, blk_far h.b7 (blk_ne h.b7 hg h6.2) _, h.be.setCell hl _, h.n4, h.n5, h.le⟩
  match f, hf with
  | none, hf => exact hf
  | some (x, e), ⟨gf, h1, h2⟩ => exact ⟨gf, h1, blk_far h2 (blk_ne h2 hg (Ne.symm h5.2)) _⟩
theorem dst_far4 {w0 w : World} {k : K5} {A : Option Addr} {c : Nat} {b : List Int} {at' : Nat} {f : Option (Int × Int)} (h : Dst w0 w k A c b at' f) {g j : Nat} {cs : Array Value} {u : Value} (hg : w.heap[g]? = some (.cells cs 3 (0, 0))) (h4 : k.g4 ≠ g) (hl : w0.heap.size ≤ g) : Dst w0 (w.setCell ⟨g, j, none⟩ u) k A c b at' f := by
  obtain ⟨p, q5, hf⟩ := h.b5
  refine ⟨blk_far h.b1 (blk_ne h.b1 hg (by decide)) _, blk_far h.b4 h4 _, ⟨p, blk_far q5 (blk_ne q5 hg (by decide)) _, ?_⟩, blk_far h.b6 (blk_ne h.b6 hg (by decide)) _, blk_far h.b7 (blk_ne h.b7 hg (by decide)) _, h.be.setCell hl _, h.n4, h.n5, h.le⟩
  match f, hf with
  | none, hf => exact hf
  | some (x, e), ⟨gf, h1, h2⟩ => exact ⟨gf, h1, blk_far h2 (blk_ne h2 hg (by decide)) _⟩
theorem big_elder {w0 w : World} {k : K5} {g2 g10 g11 : Nat} {A : Option Addr} {c : Nat} {b : List Int} {at' : Nat} {f : Option (Int × Int)} {E : Int} {v : Value} {secs : List S45} {T : Int} (h : Big w0 w k g2 g10 g11 A c b at' f E v secs T (fun _ => True)) (g : Nat) (hg : w.heap.size ≤ g) : Big w0 w k g2 g10 g11 A c b at' f E v secs T (fun j => j ≠ g) :=
  ⟨h.d, h.b2, h.b10, h.b11, Kd.S_mono (Kd.S_elderB h.row g hg) (fun _ hk => hk.2), h.n11, h.n210, h.l2, h.l10, h.l11⟩
theorem big_far {w0 w : World} {k : K5} {g2 g10 g11 : Nat} {A : Option Addr} {c : Nat} {b : List Int} {at' : Nat} {f : Option (Int × Int)} {E : Int} {v : Value} {secs : List S45} {T : Int} {ok : Nat → Prop} {g j : Nat} {cs : Array Value} {u : Value} (h : Big w0 w k g2 g10 g11 A c b at' f E v secs T ok) (hok : ∀ j, ok j → j ≠ g) (hg : w.heap[g]? = some (.cells cs 45 (0, 0))) (hl : w0.heap.size ≤ g) : Big w0 (w.setCell ⟨g, j, none⟩ u) k g2 g10 g11 A c b at' f E v secs T ok :=
  ⟨dst_far h.d hg (by decide) (by decide) (by decide) (by decide) hl, blk_far h.b2 (blk_ne h.b2 hg (by decide)) _, blk_far h.b10 (blk_ne h.b10 hg (by decide)) _, blk_far h.b11 (blk_ne h.b11 hg (by decide)) _, Kd.S_far (p := ⟨g, j, none⟩) h.row hok _, h.n11, h.n210, h.l2, h.l10, h.l11⟩
theorem big_ok {w0 w : World} {k : K5} {g2 g10 g11 : Nat} {A : Option Addr} {c : Nat} {b : List Int} {at' : Nat} {f : Option (Int × Int)} {E : Int} {v : Value} {secs : List S45} {T : Int} {ok ok' : Nat → Prop} (h : Big w0 w k g2 g10 g11 A c b at' f E v secs T ok) (hok : ∀ j, ok j → j < w.heap.size → ok' j) : Big w0 w k g2 g10 g11 A c b at' f E v secs T ok' :=
  ⟨h.d, h.b2, h.b10, h.b11, Kd.S_mono (Kd.S_bound h.row) (fun j hj => hok j hj.1 hj.2.2.1), h.n11, h.n210, h.l2, h.l10, h.l11⟩
theorem big_total {w0 w : World} {k : K5} {g2 g10 g11 : Nat} {A : Option Addr} {c : Nat} {b : List Int} {at' : Nat} {f : Option (Int × Int)} {E : Int} {v : Value} {secs : List S45} {T T' : Int} {ok : Nat → Prop} (h : Big w0 w k g2 g10 g11 A c b at' f E v secs T ok) : Big w0 (w.setCell ⟨g11, 0, none⟩ (.int .i64 T')) k g2 g10 g11 A c b at' f E v secs T' ok :=
  ⟨dst_far4 h.d h.b11 (Ne.symm h.n11) h.l11, blk_far h.b2 (blk_ne h.b2 h.b11 (by decide)) _, blk_far h.b10 (blk_ne h.b10 h.b11 (by decide)) _, blk_put h.b11 0 _ rfl, Kd.S_set h.row h.b11 (by decide) 0 _, h.n11, h.n210, h.l2, h.l10, h.l11⟩
theorem rowb_far {w : World} {base g t j : Nat} {cs : Array Value} {v u : Value} {xs : List Int} (hb : w.heap[g]? = some (.cells cs t (0, 0))) (ht : t ≠ 5) (h : Kd.R (Kd.int .u8) 5 w base (fun _ => True) v xs) : Kd.R (Kd.int .u8) 5 (w.setCell ⟨g, j, none⟩ u) base (fun _ => True) v xs := by
  refine Kd.R_mono (Kd.R_far (ok := fun k => k ≠ g) (Kd.R_mono (Kd.R_bound h) (fun k hk e => ?_)) (fun k hk => hk) _) (fun _ _ => trivial)
  subst e
  obtain ⟨_, _, _, q, hq, cells, hc⟩ := hk
  rw [hb] at hc
  have hE : (Kd.int IntKind.u8).E = [] := rfl
  rw [hE] at hq
  have h5 : q = 5 := by simpa using hq
  subst h5
  exact ht (by simpa using (congrArg (fun o : Option Obj => match o with | some (.cells _ q _) => q | _ => 0) hc))
theorem numberS_none {b : List Int} {at' : Nat} {f : Option (Int × Int)} {n : Nat} {G : Int → Int} (h : (numberS b at' f n G).2.2 = none) : G (numberS b at' f n G).1 = 0 := by
  unfold numberS at h ⊢
  simp only at h ⊢
  split at h
  · split at h
    · assumption
    · cases h
  · rename_i h1
    exact absurd h h1
theorem takeS_none {b : List Int} {at' : Nat} {f : Option (Int × Int)} {n : Nat} (h : (takeS b at' f n).2.2 = none) : f = none ∧ (takeS b at' f n).1.length = n := by
  unfold takeS at h ⊢
  by_cases hf : f = none
  · rw [if_pos hf] at h ⊢
    by_cases h1 : b.length < at' + n
    · rw [if_pos h1] at h
      cases h
    · rw [if_neg h1]
      refine ⟨hf, ?_⟩
      show ((b.drop at').take n).length = n
      rw [List.length_take, List.length_drop]
      omega
  · rw [if_neg hf] at h
    exact absurd h hf
theorem oneS_is {b : List Int} {T L : Int} {at' kk : Nat} {M1 M2 M3 : Int × Nat × Option (Int × Int)} {f4 : Option (Int × Int)} {T5 : List Int × Nat × Option (Int × Int)} {x1 x2 : Int} (h1 : M1 = numberS b at' none 2 (withinG 6 0 4095)) (h2 : M2 = numberS b M1.2.1 M1.2.2 1 (withinG 6 1 7)) (h3 : M3 = numberS b M2.2.1 M2.2.2 2 (sizeG T)) (hk : M3.1 = (kk : Int)) (hx1 : x1 = M1.1) (hx2 : x2 = M2.1)
    (hf : f4 = if M3.2.2 = none then (if secE x1 x2 kk T L = 0 then none else some ((at' : Int), secE x1 x2 kk T L)) else M3.2.2) (h5 : T5 = takeS b M3.2.1 f4 kk) : oneS b T L at' = ⟨⟨x1, x2, T5.1⟩, kk, T5.2.1, T5.2.2⟩ := by
  have hk2 : M3.1.toNat = kk := by omega
  subst hx1 hx2
  unfold oneS
  simp only [← h1, ← h2, ← h3, hk2, ← hf, ← h5]
theorem decL_step {b : List Int} {n : Nat} {T L : Int} {secs : List S45} {at' : Nat} (hn : 0 < n) : decL b n T L secs at' none = if (oneS b T L at').f = none then decL b (n - 1) (T + (oneS b T L at').k) (endP (oneS b T L at').s.f0 (oneS b T L at').k) (secs ++ [(oneS b T L at').s]) (oneS b T L at').at' none else decL b (n - 1) T L secs (oneS b T L at').at' (oneS b T L at').f := by
  obtain ⟨m, rfl⟩ : ∃ m, n = m + 1 := ⟨n - 1, by omega⟩
  rw [decL, if_pos rfl]
  rfl
theorem numw_dst {w0 w : World} {k : K5} {A : Option Addr} {c : Nat} {b : List Int} {at' : Nat} {f : Option (Int × Int)} (n : Nat) (e lo hi : Int) (ga gb gc : Nat) (h : Dst w0 w k A c b at' f) (hi' : Inp w0 A c b) (hn : 1 ≤ n ∧ n ≤ 4) (hl : Lim w ga gb gc e lo hi) (ha : ga ≠ k.g4) (hb : gb ≠ k.g4) :
    Calls Try.prog 29 #[.int .i64 (n : Int), .func (.func 32) #[] #[ptr ga, ptr gb, ptr gc], ptr k.g4, ptr k.g7, ptr k.g5, ptr k.g6] w fun e' w' => e' = .returned (.int .i64 (numberS b at' f n (withinG e lo hi)).1) ∧ Dst w0 w' k A c b (numberS b at' f n (withinG e lo hi)).2.1 (numberS b at' f n (withinG e lo hi)).2.2 ∧ RestK k w w' :=
  number_calls w0 w k A c b at' f n (withinG e lo hi) 32 #[ptr ga, ptr gb, ptr gc] ⟨h⟩ ⟨hi'.row⟩ ⟨hi'.cap⟩ ⟨hi'.len⟩ ⟨hn⟩ ⟨hi'.byt⟩ enter_within ⟨fun x w1 _ _ hr => within1_calls e lo hi x ga gb gc w1 (hl.rest h ha hb hr)⟩
theorem nume_dst {w0 w : World} {k : K5} {A : Option Addr} {c : Nat} {b : List Int} {at' : Nat} {f : Option (Int × Int)} (n : Nat) (h : Dst w0 w k A c b at' f) (hi' : Inp w0 A c b) (hn : 1 ≤ n ∧ n ≤ 4) :
    Calls Try.prog 29 #[.int .i64 (n : Int), .func (.func 33) #[] #[], ptr k.g4, ptr k.g7, ptr k.g5, ptr k.g6] w fun e' w' => e' = .returned (.int .i64 (numberS b at' f n entryG).1) ∧ Dst w0 w' k A c b (numberS b at' f n entryG).2.1 (numberS b at' f n entryG).2.2 ∧ RestK k w w' :=
  number_calls w0 w k A c b at' f n entryG 33 #[] ⟨h⟩ ⟨hi'.row⟩ ⟨hi'.cap⟩ ⟨hi'.len⟩ ⟨hn⟩ ⟨hi'.byt⟩ enter_entry ⟨fun x w1 _ _ hr => entry_calls x w1⟩
theorem numberS_bd {b : List Int} (hb : ∀ x ∈ b, 0 ≤ x ∧ x < 256) {at' : Nat} {f : Option (Int × Int)} {n : Nat} {G : Int → Int} (hn : n ≤ 4) : 0 ≤ (numberS b at' f n G).1 ∧ (numberS b at' f n G).1 < 4294967296 := takeS_val hb hn
theorem numberS_bd2 {b : List Int} (hb : ∀ x ∈ b, 0 ≤ x ∧ x < 256) {at' : Nat} {f : Option (Int × Int)} {G : Int → Int} : 0 ≤ (numberS b at' f 2 G).1 ∧ (numberS b at' f 2 G).1 < 65536 := by
  obtain ⟨h1, h2⟩ := takeS_mem hb (at' := at') (f := f) (n := 2)
  have h3 := val_bound _ h1
  have h4 : (256 : Int) ^ (takeS b at' f 2).1.length ≤ 65536 := by
    have h5 : (256 : Nat) ^ (takeS b at' f 2).1.length ≤ 256 ^ 2 := Nat.pow_le_pow_right (by decide) (by omega)
    have e : ((256 ^ (takeS b at' f 2).1.length : Nat) : Int) = (256 : Int) ^ (takeS b at' f 2).1.length := by rw [Int.natCast_pow]; rfl
    rw [← e]
    have : (256 : Nat) ^ 2 = 65536 := by decide
    omega
  exact ⟨h3.1, by show val (takeS b at' f 2).1 < _; omega⟩
theorem sizeG_ok {T : Int} {kk : Nat} (h : sizeG T (kk : Int) = 0) : 1 ≤ kk ∧ T + (kk : Int) ≤ 16384 := by
  unfold sizeG at h
  split at h
  · cases h
  · split at h
    · cases h
    · omega
theorem f4_none {M : Option (Int × Int)} {e x : Int} (h : (if M = none then (if e = 0 then none else some (x, e)) else M) = none) : e = 0 := by
  by_cases hm : M = none
  · rw [if_pos hm] at h
    by_cases he : e = 0
    · exact he
    · rw [if_neg he] at h
      cases h
  · rw [if_neg hm] at h
    exact absurd h hm
theorem big_grown {w0 w w1 : World} {k : K5} {g2 g10 g11 : Nat} {A : Option Addr} {c : Nat} {b : List Int} {at' : Nat} {E : Int} {v : Value} {secs : List S45} {T : Int} {ok : Nat → Prop} (h : Big w0 w k g2 g10 g11 A c b at' none E v secs T ok) (hg : w.grownBy w1 v.ownBlock) (hb : Below w0.heap.size w0 w1) :
    Dst w0 w1 k A c b at' none ∧ w1.heap[g2]? = some (.cells #[.int .u32 0, .slice none 0 0] 25 (0, 0)) ∧ w1.heap[g10]? = some (.cells #[.int .u32 E, v] 25 (0, 0)) ∧ w1.heap[g11]? = some (.cells #[.int .i64 T] 3 (0, 0)) := by
  have key : ∀ {j t : Nat} {cs : Array Value}, w.heap[j]? = some (.cells cs t (0, 0)) → 45 ≠ t → w1.heap[j]? = some (.cells cs t (0, 0)) := fun hj ht => blk_grown hj hg (Kd.S_ne h.row hj ht)
  obtain ⟨p, h5, hf⟩ := h.d.b5
  exact ⟨⟨key h.d.b1 (by decide), key h.d.b4 (by decide), ⟨p, key h5 (by decide), hf⟩, key h.d.b6 (by decide), key h.d.b7 (by decide), hb, h.d.n4, h.d.n5, h.d.le⟩, key h.b2 (by decide), key h.b10 (by decide), key h.b11 (by decide)⟩
theorem big_put {w0 w : World} {k : K5} {g2 g10 g11 : Nat} {A : Option Addr} {c : Nat} {b : List Int} {at' : Nat} {f : Option (Int × Int)} {E : Int} {v v1 : Value} {secs : List S45} {T : Int} (hd : Dst w0 w k A c b at' f) (h2 : w.heap[g2]? = some (.cells #[.int .u32 0, .slice none 0 0] 25 (0, 0))) (h10 : w.heap[g10]? = some (.cells #[.int .u32 E, v] 25 (0, 0))) (h11 : w.heap[g11]? = some (.cells #[.int .i64 T] 3 (0, 0)))
    (hs : Kd.S k45 45 w w0.heap.size (fun _ => True) v1 secs) (n11 : g11 ≠ k.g4) (n210 : g2 ≠ g10) (l2 : w0.heap.size ≤ g2) (l10 : w0.heap.size ≤ g10) (l11 : w0.heap.size ≤ g11) : Big w0 (w.setCell ⟨g10, 1, none⟩ v1) k g2 g10 g11 A c b at' f E v1 secs T (fun _ => True) :=
  ⟨dst_far hd h10 (by decide) (by decide) (by decide) (by decide) l10, blk_far h2 n210 _, blk_put h10 1 _ rfl, blk_far h11 (blk_ne h11 h10 (by decide)) _, Kd.S_set hs h10 (by decide) 1 _, n11, n210, l2, l10, l11⟩
theorem bytes_map_inj : ∀ {xs ys : List Int}, (∀ x ∈ xs, 0 ≤ x ∧ x < 256) → (∀ y ∈ ys, 0 ≤ y ∧ y < 256) → (xs.map fun n => UInt8.ofNat n.toNat) = (ys.map fun n => UInt8.ofNat n.toNat) → xs = ys
  | [], [], _, _, _ => rfl
  | [], _ :: _, _, _, h => by simp at h
  | _ :: _, [], _, _, h => by simp at h
  | x :: xs, y :: ys, hx, hy, h => by
    simp only [List.map_cons, List.cons.injEq] at h
    have h1 := hx x (by simp)
    have h2 := hy y (by simp)
    have e : x = y := by
      have := congrArg UInt8.toNat h.1
      simp only [UInt8.toNat_ofNat'] at this
      omega
    rw [e, bytes_map_inj (fun z hz => hx z (by simp [hz])) (fun z hz => hy z (by simp [hz])) h.2]
theorem str_eq {xs : List Int} (hx : ∀ x ∈ xs, 0 ≤ x ∧ x < 256) : (strOfNums xs).toList = [86, 82, 73, 77] ↔ xs = [86, 82, 73, 77] := by
  rw [Lib.strOfNums_toList]
  constructor
  · intro h
    exact bytes_map_inj hx (by decide) h
  · intro h
    rw [h]
    decide
set_option maxHeartbeats 3200000 in
set_option maxRecDepth 100000 in
theorem dec_calls (A : Option Addr) (c : Nat) (b : List Int) (w : World) (hi : Inp w A c b) :
    Calls Try.prog 19 #[.slice A b.length c] w fun e w' => ∃ v ev, e = .returned (.tuple #[.agg #[.int .u32 (outE (decS b)), v], ev]) ∧ Kd.S k45 45 w' w.heap.size (fun _ => True) v (outS (decS b)) ∧ ErrV w' ev (decS b).2.2 ∧ Below w.heap.size w w' := by
  have hmf : ∀ (fn : Fn) (first cap : Array Value) (w : World), (Instr.makeFunc fn first cap).run Try.prog w = .ok (.func fn first cap) w := fun _ _ _ _ => rfl
  have hoc : ∀ (fn : Fn) (x y : Array Value), (Value.func fn x y).oneCell' = true := fun _ _ _ => rfl
  have HB := Aside0.mk (Below.refl w.heap.size w)
  have HI := Aside0.mk hi
  obtain ⟨Z, hZ⟩ : ∃ Z, Z = decS b := ⟨_, rfl⟩
  rw [← hZ]
  have HZ0 := Aside0.mk hZ
  clear hZ
  clear hi
  go_enter Try.func19, Try.ntmps19
  go_wp2_with (first | ((with_reducible refine gate_dst (N := 1) rfl ?_); refine box_event ?hg (N := 1) ?hd (cs := #[.slice A b.length c]) (t := 27) ?hr ?_; (case hd => rfl); (case hg => rfl); (case hr => first | (go_simp; done) | (go_simp; rfl)); intro g1 hg w1 hbox hb; have Gg1 := Aside0.mk (show w.heap.size ≤ g1 by rw [hg]; exact HB.out.size); have Bg1 := Aside0.mk hbox; have HB := Aside0.mk (below_step HB.out hb); clear hg hbox hb) | ((with_reducible refine gate_dst (N := 2) rfl ?_); refine box_event ?hg (N := 2) ?hd (cs := #[.int .u32 0, .slice none 0 0]) (t := 25) ?hr ?_; (case hd => rfl); (case hg => rfl); (case hr => first | (go_simp; done) | (go_simp; rfl)); intro g2 hg w2 hbox hb; have Gg2 := Aside0.mk (show w.heap.size ≤ g2 by rw [hg]; exact HB.out.size); have Bg2 := Aside0.mk hbox; have Bg1 := Aside0.mk (blk_below Bg1.out hb); have HB := Aside0.mk (below_step HB.out hb); clear hg hbox hb) | ((with_reducible refine gate_dst (N := 4) rfl ?_); refine box_event ?hg (N := 4) ?hd (cs := #[.int .i64 0]) (t := 3) ?hr ?_; (case hd => rfl); (case hg => rfl); (case hr => first | (go_simp; done) | (go_simp; rfl)); intro g4 hg w3 hbox hb; have Gg4 := Aside0.mk (show w.heap.size ≤ g4 by rw [hg]; exact HB.out.size); have Bg4 := Aside0.mk hbox; have Bg1 := Aside0.mk (blk_below Bg1.out hb); have Bg2 := Aside0.mk (blk_below Bg2.out hb); have HB := Aside0.mk (below_step HB.out hb); clear hg hbox hb; have a0 : w3.cell? ⟨g4, 0, none⟩ = some (.int .i64 0) := (blk_cell Bg4.out 0).trans rfl; have f0 := blk_frozen Bg4.out 0) | ((with_reducible refine gate_store (t := 3) (p := 4) (v := .const (.int .i64 0)) rfl ?_); refine store_event (t := 3) (p := 4) (v := .const (.int .i64 0)) (w1 := w3.setCell ⟨g4, 0, none⟩ (.int .i64 0)) rfl rfl rfl ?hr ?_; (case hr => first | (go_simp; done) | (go_simp; rfl)); intro w4 hw; have Bg1 : Aside0 (w4.heap[g1]? = some (.cells #[.slice A b.length c] 27 (0, 0))) := ⟨(by rw [hw]; exact blk_far Bg1.out (blk_ne Bg1.out Bg4.out (by decide)) _)⟩; have Bg2 : Aside0 (w4.heap[g2]? = some (.cells #[.int .u32 0, .slice none 0 0] 25 (0, 0))) := ⟨(by rw [hw]; exact blk_far Bg2.out (blk_ne Bg2.out Bg4.out (by decide)) _)⟩; have Bg4 : Aside0 (w4.heap[g4]? = some (.cells #[.int .i64 0] 3 (0, 0))) := ⟨(by rw [hw]; exact blk_put Bg4.out 0 _ rfl)⟩; have HB : Aside0 (Below w.heap.size w w4) := ⟨(by rw [hw]; exact below_set HB.out Gg4.out)⟩; clear hw a0 f0) | ((with_reducible refine gate_dst (N := 5) rfl ?_); refine box_event ?hg (N := 5) ?hd (cs := #[.pointer none]) (t := 54) ?hr ?_; (case hd => rfl); (case hg => rfl); (case hr => first | (go_simp; done) | (go_simp; rfl)); intro g5 hg w5 hbox hb; have Gg5 := Aside0.mk (show w.heap.size ≤ g5 by rw [hg]; exact HB.out.size); have Bg5 := Aside0.mk hbox; have Bg1 := Aside0.mk (blk_below Bg1.out hb); have Bg2 := Aside0.mk (blk_below Bg2.out hb); have Bg4 := Aside0.mk (blk_below Bg4.out hb); have HB := Aside0.mk (below_step HB.out hb); clear hg hbox hb) | ((with_reducible refine gate_dst (N := 6) rfl ?_); refine box_event ?hg (N := 6) ?hd (cs := #[.nilFunc]) (t := 57) ?hr ?_; (case hd => rfl); (case hg => rfl); (case hr => first | (go_simp; done) | (go_simp; rfl)); intro g6 hg w6 hbox hb; have Gg6 := Aside0.mk (show w.heap.size ≤ g6 by rw [hg]; exact HB.out.size); have Bg6 := Aside0.mk hbox; have Bg1 := Aside0.mk (blk_below Bg1.out hb); have Bg2 := Aside0.mk (blk_below Bg2.out hb); have Bg4 := Aside0.mk (blk_below Bg4.out hb); have Bg5 := Aside0.mk (blk_below Bg5.out hb); have HB := Aside0.mk (below_step HB.out hb); clear hg hbox hb; have a0 : w6.cell? ⟨g6, 0, none⟩ = some (.nilFunc) := (blk_cell Bg6.out 0).trans rfl; have f0 := blk_frozen Bg6.out 0) | ((with_reducible refine gate_store (t := 57) (p := 6) (v := .tmp 18) rfl ?_); refine store_event (t := 57) (p := 6) (v := .tmp 18) (w1 := w6.setCell ⟨g6, 0, none⟩ (.func (.func 27) #[] #[.pointer (some ⟨g5, 0, none⟩)])) rfl rfl rfl ?hr ?_; (case hr => have hs : (store ⟨g6, 0, none⟩ (.func (.func 27) #[] #[.pointer (some ⟨g5, 0, none⟩)])).run Try.prog w6 = .ok () (w6.setCell ⟨g6, 0, none⟩ (.func (.func 27) #[] #[.pointer (some ⟨g5, 0, none⟩)])) := (by rw [run_store _ _ _ _ _ rfl, a0]; simp [f0]); first | (go_simp; done) | (go_simp; rfl)); intro w7 hw; have Bg1 : Aside0 (w7.heap[g1]? = some (.cells #[.slice A b.length c] 27 (0, 0))) := ⟨(by rw [hw]; exact blk_far Bg1.out (blk_ne Bg1.out Bg6.out (by decide)) _)⟩; have Bg2 : Aside0 (w7.heap[g2]? = some (.cells #[.int .u32 0, .slice none 0 0] 25 (0, 0))) := ⟨(by rw [hw]; exact blk_far Bg2.out (blk_ne Bg2.out Bg6.out (by decide)) _)⟩; have Bg4 : Aside0 (w7.heap[g4]? = some (.cells #[.int .i64 0] 3 (0, 0))) := ⟨(by rw [hw]; exact blk_far Bg4.out (blk_ne Bg4.out Bg6.out (by decide)) _)⟩; have Bg5 : Aside0 (w7.heap[g5]? = some (.cells #[.pointer none] 54 (0, 0))) := ⟨(by rw [hw]; exact blk_far Bg5.out (blk_ne Bg5.out Bg6.out (by decide)) _)⟩; have Bg6 : Aside0 (w7.heap[g6]? = some (.cells #[.func (.func 27) #[] #[.pointer (some ⟨g5, 0, none⟩)]] 57 (0, 0))) := ⟨(by rw [hw]; exact blk_put Bg6.out 0 _ rfl)⟩; have HB : Aside0 (Below w.heap.size w w7) := ⟨(by rw [hw]; exact below_set HB.out Gg6.out)⟩; clear hw a0 f0) | ((with_reducible refine gate_dst (N := 7) rfl ?_); refine box_event ?hg (N := 7) ?hd (cs := #[.nilFunc]) (t := 58) ?hr ?_; (case hd => rfl); (case hg => rfl); (case hr => first | (go_simp; done) | (go_simp; rfl)); intro g7 hg w8 hbox hb; have Gg7 := Aside0.mk (show w.heap.size ≤ g7 by rw [hg]; exact HB.out.size); have Bg7 := Aside0.mk hbox; have Bg1 := Aside0.mk (blk_below Bg1.out hb); have Bg2 := Aside0.mk (blk_below Bg2.out hb); have Bg4 := Aside0.mk (blk_below Bg4.out hb); have Bg5 := Aside0.mk (blk_below Bg5.out hb); have Bg6 := Aside0.mk (blk_below Bg6.out hb); have HB := Aside0.mk (below_step HB.out hb); clear hg hbox hb; have a0 : w8.cell? ⟨g7, 0, none⟩ = some (.nilFunc) := (blk_cell Bg7.out 0).trans rfl; have f0 := blk_frozen Bg7.out 0) | ((with_reducible refine gate_store (t := 58) (p := 7) (v := .tmp 19) rfl ?_); refine store_event (t := 58) (p := 7) (v := .tmp 19) (w1 := w8.setCell ⟨g7, 0, none⟩ (.func (.func 28) #[] #[.pointer (some ⟨g5, 0, none⟩), .pointer (some ⟨g1, 0, none⟩), .pointer (some ⟨g4, 0, none⟩), .pointer (some ⟨g6, 0, none⟩)])) rfl rfl rfl ?hr ?_; (case hr => have hs : (store ⟨g7, 0, none⟩ (.func (.func 28) #[] #[.pointer (some ⟨g5, 0, none⟩), .pointer (some ⟨g1, 0, none⟩), .pointer (some ⟨g4, 0, none⟩), .pointer (some ⟨g6, 0, none⟩)])).run Try.prog w8 = .ok () (w8.setCell ⟨g7, 0, none⟩ (.func (.func 28) #[] #[.pointer (some ⟨g5, 0, none⟩), .pointer (some ⟨g1, 0, none⟩), .pointer (some ⟨g4, 0, none⟩), .pointer (some ⟨g6, 0, none⟩)])) := (by rw [run_store _ _ _ _ _ rfl, a0]; simp [f0]); first | (go_simp; done) | (go_simp; rfl)); intro w9 hw; have Bg1 : Aside0 (w9.heap[g1]? = some (.cells #[.slice A b.length c] 27 (0, 0))) := ⟨(by rw [hw]; exact blk_far Bg1.out (blk_ne Bg1.out Bg7.out (by decide)) _)⟩; have Bg2 : Aside0 (w9.heap[g2]? = some (.cells #[.int .u32 0, .slice none 0 0] 25 (0, 0))) := ⟨(by rw [hw]; exact blk_far Bg2.out (blk_ne Bg2.out Bg7.out (by decide)) _)⟩; have Bg4 : Aside0 (w9.heap[g4]? = some (.cells #[.int .i64 0] 3 (0, 0))) := ⟨(by rw [hw]; exact blk_far Bg4.out (blk_ne Bg4.out Bg7.out (by decide)) _)⟩; have Bg5 : Aside0 (w9.heap[g5]? = some (.cells #[.pointer none] 54 (0, 0))) := ⟨(by rw [hw]; exact blk_far Bg5.out (blk_ne Bg5.out Bg7.out (by decide)) _)⟩; have Bg6 : Aside0 (w9.heap[g6]? = some (.cells #[.func (.func 27) #[] #[.pointer (some ⟨g5, 0, none⟩)]] 57 (0, 0))) := ⟨(by rw [hw]; exact blk_far Bg6.out (blk_ne Bg6.out Bg7.out (by decide)) _)⟩; have Bg7 : Aside0 (w9.heap[g7]? = some (.cells #[.func (.func 28) #[] #[.pointer (some ⟨g5, 0, none⟩), .pointer (some ⟨g1, 0, none⟩), .pointer (some ⟨g4, 0, none⟩), .pointer (some ⟨g6, 0, none⟩)]] 58 (0, 0))) := ⟨(by rw [hw]; exact blk_put Bg7.out 0 _ rfl)⟩; have HB : Aside0 (Below w.heap.size w w9) := ⟨(by rw [hw]; exact below_set HB.out Gg7.out)⟩; clear hw a0 f0; have c7 : w9.cell? ⟨g7, 0, none⟩ = some (.func (.func 28) #[] #[.pointer (some ⟨g5, 0, none⟩), .pointer (some ⟨g1, 0, none⟩), .pointer (some ⟨g4, 0, none⟩), .pointer (some ⟨g6, 0, none⟩)]) := (blk_cell Bg7.out 0).trans rfl))
  have D0 : Aside0 (Dst w w9 ⟨g1, g4, g5, g6, g7⟩ A c b 0 none) := ⟨⟨Bg1.out, Bg4.out, ⟨none, Bg5.out, rfl⟩, Bg6.out, Bg7.out, HB.out, Gg4.out, Gg5.out, Nat.zero_le _⟩⟩
  refine (take_calls w w9 ⟨g1, g4, g5, g6, g7⟩ A c b 0 none 4 D0 ⟨HI.out.row⟩ ⟨HI.out.cap⟩ ⟨HI.out.len⟩ ⟨by decide⟩ ⟨fun _ => by decide⟩ ⟨HB.out.size⟩).mono ?_
  rintro e w10 ⟨v, rfl, hd, hr, hk⟩
  obtain ⟨T1, hT1⟩ : ∃ T, T = takeS b 0 none 4 := ⟨_, rfl⟩
  rw [← hT1] at hd hr
  have HT1 := Aside0.mk hT1
  have HTB : Aside0 (∀ x ∈ T1.1, 0 ≤ x ∧ x < 256) := ⟨by rw [hT1]; exact (takeS_mem HI.out.byt).1⟩
  obtain ⟨A9, c9, rfl, hc9, hr9⟩ := Kd.R_reads hr
  have D1 := Aside0.mk hd
  have B2 := Aside0.mk (hk.cells Bg2.out (blk_ne Bg2.out Bg4.out (by decide)) (by decide) Bg5.out)
  have cv := Kd.C_string (P := Try.prog) (A := A9) (c := c9) Try.underlying27 Try.underlying5 Try.underlying9 hr9
  have HM := Aside0.mk (str_eq HTB.out)
  obtain ⟨f1, hf1⟩ : ∃ f1, f1 = if T1.1 = [86, 82, 73, 77] then T1.2.2 else failS T1.2.2 0 130 := ⟨_, rfl⟩
  have HF1 := Aside0.mk hf1
  clear hd hr hk hc9 hr9 hT1 c7 Bg1 Bg2 Bg4 Bg5 Bg6 Bg7 HB D0 hf1
  go_upto_if 24 with fail
  go_cut [] (fun wc => Dst w wc ⟨g1, g4, g5, g6, g7⟩ A c b T1.2.1 f1 ∧ wc.heap[g2]? = some (.cells #[.int .u32 0, .slice none 0 0] 25 (0, 0)))
  case first =>
    by_cases hm : T1.1 = [86, 82, 73, 77]
    · have e1 : ((strOfNums T1.1).toList == [86, 82, 73, 77]) = true := by rw [HM.out.2 hm]; decide
      have HF2 : Aside0 (f1 = T1.2.2) := ⟨by rw [HF1.out, if_pos hm]⟩
      clear hm
      have e2 : (!((strOfNums T1.1).toList == [86, 82, 73, 77])) = false := by rw [e1]; rfl
      rw [e2]
      go_wp2_with fail
      go_meet
      exact ⟨by rw [HF2.out]; exact D1.out, B2.out⟩
    · have e1 : ((strOfNums T1.1).toList == [86, 82, 73, 77]) = false := beq_eq_false_iff_ne.mpr (fun h => hm (HM.out.1 h))
      have HF2 : Aside0 (f1 = failS T1.2.2 0 130) := ⟨by rw [HF1.out, if_neg hm]⟩
      have c6 : w10.cell? ⟨g6, 0, none⟩ = some (.func (.func 27) #[] #[.pointer (some ⟨g5, 0, none⟩)]) := (blk_cell D1.out.b6 0).trans rfl
      clear hm
      have e2 : (!((strOfNums T1.1).toList == [86, 82, 73, 77])) = true := by rw [e1]; rfl
      rw [e2]
      go_wp2_with fail
      refine (fail_calls w w10 ⟨g1, g4, g5, g6, g7⟩ A c b T1.2.1 T1.2.2 0 130 D1).mono ?_
      rintro e w11 ⟨rfl, hd, hk⟩
      have D2 := Aside0.mk hd
      have B2 := Aside0.mk (by obtain ⟨p, h5, _⟩ := D1.out.b5; exact hk.cells B2.out (blk_ne B2.out D1.out.b4 (by decide)) (by decide) h5)
      clear hd hk c6
      go_wp2_with fail
      go_meet
      exact ⟨by rw [HF2.out]; exact D2.out, B2.out⟩
  case rest =>
    obtain ⟨hd, h2⟩ := hcut
    have D1 := Aside0.mk hd
    have B2 := Aside0.mk h2
    clear hd h2 cv
    go_wp2_with fail
    refine (within_calls 131 1 1 wc).mono ?_
    rintro e w12 ⟨ga, gb, gc, rfl, hl, h1, h2, hb⟩
    have HL := Aside0.mk hl
    have HA4 := Aside0.mk (show ga ≠ g4 by have := blk_lt D1.out.b4; simp only at this; omega)
    have HB4 := Aside0.mk (show gb ≠ g4 by have := blk_lt D1.out.b4; simp only at this; omega)
    have D2 := Aside0.mk (D1.out.below hb)
    have B2 := Aside0.mk (blk_below B2.out hb)
    clear hl h1 h2 hb
    unfold ptr
    go_wp2_with fail
    refine (numw_dst (k := ⟨g1, g4, g5, g6, g7⟩) 1 131 1 1 ga gb gc D2.out HI.out (by decide) HL.out HA4.out HB4.out).mono ?_
    rintro e w13 ⟨he, hd, hk⟩
    obtain ⟨N2, hN2⟩ : ∃ N, N = numberS b T1.2.1 f1 1 (withinG 131 1 1) := ⟨_, rfl⟩
    rw [← hN2] at he hd
    subst he
    have HN2 := Aside0.mk hN2
    have D3 := Aside0.mk hd
    have B2 := Aside0.mk (rest_cells hk D2.out B2.out (by decide) (by decide))
    clear hN2 hd hk HL HA4 HB4 D1 D2
    go_wp2_with (first | ((with_reducible refine gate_dst (N := 10) rfl ?_); refine box_event ?hg (N := 10) ?hd (cs := #[.int .u32 0, .slice none 0 0]) (t := 25) ?hr ?_; (case hd => rfl); (case hg => rfl); (case hr => first | (go_simp; done) | (go_simp; rfl)); intro g10 hg wd hbox hb; have G10 := Aside0.mk (show w.heap.size ≤ g10 by rw [hg]; exact D3.out.be.size); have N210 := Aside0.mk (show g2 ≠ g10 by rw [hg]; have := blk_lt B2.out; omega); have B10 := Aside0.mk hbox; have D3 := Aside0.mk (D3.out.below hb); have B2 := Aside0.mk (blk_below B2.out hb); clear hg hbox hb))
    refine (nume_dst (k := ⟨g1, g4, g5, g6, g7⟩) 4 D3.out HI.out (by decide)).mono ?_
    rintro e we ⟨he, hd, hk⟩
    obtain ⟨N3, hN3⟩ : ∃ N, N = numberS b N2.2.1 N2.2.2 4 entryG := ⟨_, rfl⟩
    rw [← hN3] at he hd
    subst he
    have HN3 := Aside0.mk hN3
    have D4 := Aside0.mk hd
    have B2 := Aside0.mk (rest_cells hk D3.out B2.out (by decide) (by decide))
    have B10 := Aside0.mk (rest_cells hk D3.out B10.out (by decide) (by decide))
    obtain ⟨x3, hx3⟩ : ∃ x, x = N3.1 := ⟨_, rfl⟩
    rw [← hx3]
    have HX3 := Aside0.mk hx3
    have a0 : we.cell? ⟨g10, 0, none⟩ = some (.int .u32 0) := (blk_cell B10.out 0).trans rfl
    have f0 := blk_frozen B10.out 0
    have z3 : IntKind.u32.wrap x3 = x3 % 4294967296 := u32w x3
    clear hN3 hd hk D3 hx3
    go_wp2_with (first | ((with_reducible refine gate_store (t := 22) (p := 34) (v := .tmp 33) rfl ?_); refine store_event (t := 22) (p := 34) (v := .tmp 33) (w1 := we.setCell ⟨g10, 0, none⟩ (.int .u32 (x3 % 4294967296))) rfl rfl rfl ?hr ?_; (case hr => first | (go_simp; done) | (go_simp; rfl)); intro wf hw; have D4 := Aside0.mk (show Dst w wf ⟨g1, g4, g5, g6, g7⟩ A c b N3.2.1 N3.2.2 by rw [hw]; exact dst_far D4.out B10.out (by decide) (by decide) (by decide) (by decide) G10.out); have B2 : Aside0 (wf.heap[g2]? = some (.cells #[.int .u32 0, .slice none 0 0] 25 (0, 0))) := ⟨(by rw [hw]; exact blk_far B2.out N210.out _)⟩; have B10 : Aside0 (wf.heap[g10]? = some (.cells #[.int .u32 (x3 % 4294967296), .slice none 0 0] 25 (0, 0))) := ⟨(by rw [hw]; exact blk_put B10.out 0 _ rfl)⟩; clear hw a0 f0) | ((with_reducible refine gate_dst (N := 11) rfl ?_); refine box_event ?hg (N := 11) ?hd (cs := #[.int .i64 0]) (t := 3) ?hr ?_; (case hd => rfl); (case hg => rfl); (case hr => first | (go_simp; done) | (go_simp; rfl)); intro g11 hg wg hbox hb; have G11 := Aside0.mk (show w.heap.size ≤ g11 by rw [hg]; exact D4.out.be.size); have N11 := Aside0.mk (show g11 ≠ g4 by rw [hg]; have := blk_lt D4.out.b4; simp only at this; omega); have B11 := Aside0.mk hbox; have D4 := Aside0.mk (D4.out.below hb); have B2 := Aside0.mk (blk_below B2.out hb); have B10 := Aside0.mk (blk_below B10.out hb); clear hg hbox hb; have a0 : wg.cell? ⟨g11, 0, none⟩ = some (.int .i64 0) := (blk_cell B11.out 0).trans rfl; have f0 := blk_frozen B11.out 0) | ((with_reducible refine gate_store (t := 3) (p := 11) (v := .const (.int .i64 0)) rfl ?_); refine store_event (t := 3) (p := 11) (v := .const (.int .i64 0)) (w1 := wg.setCell ⟨g11, 0, none⟩ (.int .i64 0)) rfl rfl rfl ?hr ?_; (case hr => first | (go_simp; done) | (go_simp; rfl)); intro wh hw; have D4 := Aside0.mk (show Dst w wh ⟨g1, g4, g5, g6, g7⟩ A c b N3.2.1 N3.2.2 by rw [hw]; exact dst_far4 D4.out B11.out (Ne.symm N11.out) G11.out); have B2 : Aside0 (wh.heap[g2]? = some (.cells #[.int .u32 0, .slice none 0 0] 25 (0, 0))) := ⟨(by rw [hw]; exact blk_far B2.out (blk_ne B2.out B11.out (by decide)) _)⟩; have B10 : Aside0 (wh.heap[g10]? = some (.cells #[.int .u32 (x3 % 4294967296), .slice none 0 0] 25 (0, 0))) := ⟨(by rw [hw]; exact blk_far B10.out (blk_ne B10.out B11.out (by decide)) _)⟩; have B11 : Aside0 (wh.heap[g11]? = some (.cells #[.int .i64 0] 3 (0, 0))) := ⟨(by rw [hw]; exact blk_put B11.out 0 _ rfl)⟩; clear hw a0 f0))
    have BG : Aside0 (Big w wh ⟨g1, g4, g5, g6, g7⟩ g2 g10 g11 A c b N3.2.1 N3.2.2 (x3 % 4294967296) (.slice none 0 0) [] 0 (fun _ => True)) := ⟨⟨D4.out, B2.out, B10.out, B11.out, Kd.S_nil _ _ _ _ _, N11.out, N210.out, Gg2.out, G10.out, G11.out⟩⟩
    clear D4 B2 B10 B11
    refine (within_big 9 0 16 BG.out).mono ?_
    rintro e w14 ⟨ga, gb, gc, rfl, hl, h1, h2, hg, hb⟩
    have BG := Aside0.mk hg
    have HL := Aside0.mk hl
    have HA4 := Aside0.mk h1
    have HB4 := Aside0.mk h2
    clear hl h1 h2 hb hg
    unfold ptr
    go_wp2_with fail
    refine (numw_big 1 9 0 16 ga gb gc BG.out HI.out (by decide) HL.out HA4.out HB4.out).mono ?_
    rintro e w15 ⟨he, hg, hk⟩
    obtain ⟨N4, hN4⟩ : ∃ N, N = numberS b N3.2.1 N3.2.2 1 (withinG 9 0 16) := ⟨_, rfl⟩
    have hb4 := numberS_bd (b := b) HI.out.byt (at' := N3.2.1) (f := N3.2.2) (n := 1) (G := withinG 9 0 16) (by decide)
    rw [← hN4] at he hg hb4
    subst he
    have HN4 := Aside0.mk hN4
    have HB4' := Aside0.mk hb4
    have BG := Aside0.mk hg
    clear hN4 hg hk hb4 HL HA4 HB4
    go_wp2_with fail
    obtain ⟨n0, hn0⟩ : ∃ n0 : Nat, N4.1 = (n0 : Int) := ⟨N4.1.toNat, by have := HB4'.out; omega⟩
    have HN0 : Aside0 (n0 ≤ 4294967295) := ⟨by have := HB4'.out; omega⟩
    obtain ⟨R, hR⟩ : ∃ R, R = decL b n0 0 (-1) [] N4.2.1 N4.2.2 := ⟨_, rfl⟩
    have HRR := Aside0.mk hR
    have HZ1 : Aside0 (Z = (x3 % 4294967296, R.1, if R.2.2 = none then (if R.2.1 < b.length then some ((R.2.1 : Int), 7) else none) else R.2.2)) := ⟨by
      rw [HZ0.out, hR]
      have e0 : n0 = N4.1.toNat := by omega
      rw [e0, HN4.out, HX3.out, HN3.out, HN2.out, HF1.out, HT1.out]
      rfl⟩
    rw [hn0]
    clear hn0 hR HF1 HN2 HN3 HN4 HX3 HT1 HB4' HZ0
    go_loopg [12, 13] n0 (fun k v12 v13 w' => ∃ (n : Nat) (T L : Int) (secs : List S45) (at' : Nat) (f : Option (Int × Int)) (v : Value), v12 = .int .i64 L ∧ v13 = .int .i64 (n : Int) ∧ Aside0 (k = n ∧ secs.length + n ≤ 4294967295) ∧ Aside0 (decL b n T L secs at' f = R) ∧ Aside0 (0 ≤ T ∧ T ≤ 16384) ∧ Aside0 (Big w w' ⟨g1, g4, g5, g6, g7⟩ g2 g10 g11 A c b at' f (x3 % 4294967296) v secs T (fun _ => True)))
    case atStart => exact ⟨n0, 0, -1, [], _, _, _, rfl, rfl, ⟨rfl, by have := HN0.out; simpa using this⟩, ⟨HRR.out.symm⟩, ⟨by decide⟩, BG⟩
    case round =>
     clear BG
     obtain ⟨n, T, L, secs, at', f, v, rfl, rfl, HK, HR, HT, BG⟩ := hrel
     obtain ⟨p, h5, hf⟩ := BG.out.d.b5
     have c5 : wr.cell? ⟨g5, 0, none⟩ = some (.pointer p) := (blk_cell h5 0).trans rfl
     clear h5
     by_cases hex : n = 0 ∨ f ≠ none
     · have hRR : R = (secs, at', f) := by
         rw [← HR.out]
         rcases hex with h | h
         · subst h
           rfl
         · exact decL_some b n T L secs at' h
       have HRR := Aside0.mk hRR
       clear hRR
       cases f with
       | some q =>
         obtain ⟨q1, q2⟩ := q
         obtain ⟨gf, rfl, hgf⟩ := hf
         have GF := Aside0.mk hgf
         have HZ2 : Aside0 (Z = (x3 % 4294967296, secs, some (q1, q2))) := ⟨by rw [HZ1.out, HRR.out, if_neg (by simp)]⟩
         clear hgf hex
         by_cases hn : n = 0
         · subst hn
           go_wp2_with fail
           have BE := Aside0.mk (BG.out.below (below_drew1 (Below.refl wr.heap.size wr)))
           have GFE := Aside0.mk (blk_drew GF.out)
           have c51 : wr.drew.cell? ⟨g5, 0, none⟩ = some (.pointer (some ⟨gf, 0, none⟩)) := c5
           clear c5
           refine start_ (n := 5) (S := fun w' => w'.cell? ⟨g5, 0, none⟩ = some (.pointer (some ⟨gf, 0, none⟩))) (ds := []) #[false, false, false, false, false] (by kernel_rfl) rfl rfl c51 (fun hs => ?_)
           generalize wr.drew = wX at *
           have Hs := Aside0.mk hs
           clear hs
           refine pure_ (i := 0) (N := some 108) (v := ?_) (a' := ?_) #[true, false, false, false, false] rfl rfl (by kernel_rfl) (fun _ _ _ h => h) (Or.inl ⟨by rfl, ?_⟩) ?_ ?_
           rotate_left
           · intro w'
             go_simp
             with_reducible rfl
           rotate_left
           · simp only [Act.put, List.setIfInBounds_toArray, List.set_cons_zero, List.set_cons_succ]
             rfl
           refine take_ (i := 1) (N := some 109) (v := .pointer (some ⟨gf, 0, none⟩)) #[true, true, false, false, false] rfl rfl (by kernel_rfl) (fun _ _ _ h => h) (Or.inl ⟨by rfl, ?_⟩) ?_ (a' := ?_) ?_ ?_
           · intro w' hS
             have t0 := hS
             clear hS
             go_simp
           · exact Hs.out
           rotate_left
           · simp only [Act.put, List.setIfInBounds_toArray, List.set_cons_zero, List.set_cons_succ]
             rfl
           refine pure_ (i := 2) (N := some 110) (v := ?_) (a' := ?_) #[true, true, true, false, false] rfl rfl (by kernel_rfl) (fun _ _ _ h => h) (Or.inl ⟨by rfl, ?_⟩) ?_ ?_
           rotate_left
           · intro w'
             go_simp
             with_reducible rfl
           rotate_left
           · simp only [Act.put, List.setIfInBounds_toArray, List.set_cons_zero, List.set_cons_succ]
             rfl
           have a0 : wX.cell? ⟨g2, 0, none⟩ = some (.int .u32 0) := (blk_cell BE.out.b2 0).trans rfl
           have a1 : wX.cell? ⟨g2, 1, none⟩ = some (.slice none 0 0) := (blk_cell BE.out.b2 1).trans rfl
           have f0 := blk_frozen BE.out.b2 0
           have f1 := blk_frozen BE.out.b2 1
           have q8 := blk_put BE.out.b2 0 (.int .u32 0) rfl
           obtain ⟨p9, h9, _⟩ := BE.out.d.b5
           refine one_ (i := 3) (N := none) #[true, true, true, true, false] rfl rfl (by kernel_rfl) (by decide) (fun K hK => ?_)
           refine skip_ (w1 := (wX.setCell ⟨g2, 0, none⟩ (.int .u32 0)).setCell ⟨g2, 1, none⟩ (.slice none 0 0)) (by rfl) rfl (by first | (go_simp; done) | (go_simp; rfl)) ?_
           refine hK.out _ _ ?_ (fun _ => ?_)
           · have h10 := blk_far (blk_far h9 (p := ⟨g2, 0, none⟩) (blk_ne h9 BE.out.b2 (by decide)) (.int .u32 0)) (p := ⟨g2, 1, none⟩) (blk_ne h9 BE.out.b2 (by decide)) (.slice none 0 0)
             exact (blk_cell h10 0).trans ((blk_cell h9 0).symm.trans c51)
           clear hK K Hs a0 a1 f0 f1 c51
           refine pure_ (i := 4) (N := some 3) (v := ?_) (a' := ?_) #[true, true, true, true, true] rfl rfl (by kernel_rfl) (fun _ _ _ h => h) (Or.inl ⟨by rfl, ?_⟩) ?_ ?_
           rotate_left
           · intro w'
             go_simp
             with_reducible rfl
           rotate_left
           · simp only [Act.put, List.setIfInBounds_toArray, List.set_cons_zero, List.set_cons_succ]
             rfl
           refine done_ (by kernel_rfl) ?_
           go_wp2_with fail
           refine bodyPost_ret (results_ct rfl _ _ g2 25 #[.int .u32 0, .slice none 0 0] (0, 0) _ rfl (blk_put q8 1 (.slice none 0 0) rfl) Try.underlying25 rfl (by kernel_rfl)) rfl ?_
           rw [HZ2.out, outE_some, outS_some]
           exact ⟨.slice none 0 0, _, rfl, Kd.S_nil _ _ _ _ _, ⟨gf, rfl, blk_far (blk_far GFE.out (p := ⟨g2, 0, none⟩) (blk_ne GFE.out BE.out.b2 (by decide)) _) (p := ⟨g2, 1, none⟩) (blk_ne GFE.out BE.out.b2 (by decide)) _⟩, below_set (below_set BE.out.d.be BE.out.l2) BE.out.l2⟩
         · have e1 : decide ((0 : Int) < (n : Int)) = true := decide_eq_true (by omega)
           have e2 : 0 < n := by omega
           clear hn
           go_wp2_with fail
           have BE := Aside0.mk (BG.out.below (below_drew1 (Below.refl wr.heap.size wr)))
           have GFE := Aside0.mk (blk_drew GF.out)
           have c51 : wr.drew.cell? ⟨g5, 0, none⟩ = some (.pointer (some ⟨gf, 0, none⟩)) := c5
           clear c5
           refine start_ (n := 5) (S := fun w' => w'.cell? ⟨g5, 0, none⟩ = some (.pointer (some ⟨gf, 0, none⟩))) (ds := []) #[false, false, false, false, false] (by kernel_rfl) rfl rfl c51 (fun hs => ?_)
           generalize wr.drew = wX at *
           have Hs := Aside0.mk hs
           clear hs
           refine pure_ (i := 0) (N := some 108) (v := ?_) (a' := ?_) #[true, false, false, false, false] rfl rfl (by kernel_rfl) (fun _ _ _ h => h) (Or.inl ⟨by rfl, ?_⟩) ?_ ?_
           rotate_left
           · intro w'
             go_simp
             with_reducible rfl
           rotate_left
           · simp only [Act.put, List.setIfInBounds_toArray, List.set_cons_zero, List.set_cons_succ]
             rfl
           refine take_ (i := 1) (N := some 109) (v := .pointer (some ⟨gf, 0, none⟩)) #[true, true, false, false, false] rfl rfl (by kernel_rfl) (fun _ _ _ h => h) (Or.inl ⟨by rfl, ?_⟩) ?_ (a' := ?_) ?_ ?_
           · intro w' hS
             have t0 := hS
             clear hS
             go_simp
           · exact Hs.out
           rotate_left
           · simp only [Act.put, List.setIfInBounds_toArray, List.set_cons_zero, List.set_cons_succ]
             rfl
           refine pure_ (i := 2) (N := some 110) (v := ?_) (a' := ?_) #[true, true, true, false, false] rfl rfl (by kernel_rfl) (fun _ _ _ h => h) (Or.inl ⟨by rfl, ?_⟩) ?_ ?_
           rotate_left
           · intro w'
             go_simp
             with_reducible rfl
           rotate_left
           · simp only [Act.put, List.setIfInBounds_toArray, List.set_cons_zero, List.set_cons_succ]
             rfl
           have a0 : wX.cell? ⟨g2, 0, none⟩ = some (.int .u32 0) := (blk_cell BE.out.b2 0).trans rfl
           have a1 : wX.cell? ⟨g2, 1, none⟩ = some (.slice none 0 0) := (blk_cell BE.out.b2 1).trans rfl
           have f0 := blk_frozen BE.out.b2 0
           have f1 := blk_frozen BE.out.b2 1
           have q8 := blk_put BE.out.b2 0 (.int .u32 0) rfl
           obtain ⟨p9, h9, _⟩ := BE.out.d.b5
           refine one_ (i := 3) (N := none) #[true, true, true, true, false] rfl rfl (by kernel_rfl) (by decide) (fun K hK => ?_)
           refine skip_ (w1 := (wX.setCell ⟨g2, 0, none⟩ (.int .u32 0)).setCell ⟨g2, 1, none⟩ (.slice none 0 0)) (by rfl) rfl (by first | (go_simp; done) | (go_simp; rfl)) ?_
           refine hK.out _ _ ?_ (fun _ => ?_)
           · have h10 := blk_far (blk_far h9 (p := ⟨g2, 0, none⟩) (blk_ne h9 BE.out.b2 (by decide)) (.int .u32 0)) (p := ⟨g2, 1, none⟩) (blk_ne h9 BE.out.b2 (by decide)) (.slice none 0 0)
             exact (blk_cell h10 0).trans ((blk_cell h9 0).symm.trans c51)
           clear hK K Hs a0 a1 f0 f1 c51
           refine pure_ (i := 4) (N := some 3) (v := ?_) (a' := ?_) #[true, true, true, true, true] rfl rfl (by kernel_rfl) (fun _ _ _ h => h) (Or.inl ⟨by rfl, ?_⟩) ?_ ?_
           rotate_left
           · intro w'
             go_simp
             with_reducible rfl
           rotate_left
           · simp only [Act.put, List.setIfInBounds_toArray, List.set_cons_zero, List.set_cons_succ]
             rfl
           refine done_ (by kernel_rfl) ?_
           go_wp2_with fail
           refine bodyPost_ret (results_ct rfl _ _ g2 25 #[.int .u32 0, .slice none 0 0] (0, 0) _ rfl (blk_put q8 1 (.slice none 0 0) rfl) Try.underlying25 rfl (by kernel_rfl)) rfl ?_
           rw [HZ2.out, outE_some, outS_some]
           exact ⟨.slice none 0 0, _, rfl, Kd.S_nil _ _ _ _ _, ⟨gf, rfl, blk_far (blk_far GFE.out (p := ⟨g2, 0, none⟩) (blk_ne GFE.out BE.out.b2 (by decide)) _) (p := ⟨g2, 1, none⟩) (blk_ne GFE.out BE.out.b2 (by decide)) _⟩, below_set (below_set BE.out.d.be BE.out.l2) BE.out.l2⟩
       | none =>
         have hp : p = none := hf
         subst hp
         have hn : n = 0 := by
           rcases hex with h | h
           · exact h
           · exact absurd rfl h
         subst hn
         have c4 : wr.cell? ⟨g4, 0, none⟩ = some (.int .i64 (at' : Int)) := (blk_cell BG.out.d.b4 0).trans rfl
         have c1 : wr.cell? ⟨g1, 0, none⟩ = some (.slice A b.length c) := (blk_cell BG.out.d.b1 0).trans rfl
         clear hf hex
         by_cases hlt : at' < b.length
         · have e1 : decide ((at' : Int) < (b.length : Int)) = true := decide_eq_true (by omega)
           have HZ2 : Aside0 (Z = (x3 % 4294967296, secs, some ((at' : Int), 7))) := ⟨by rw [HZ1.out, HRR.out, if_pos rfl, if_pos hlt]⟩
           have c6 : wr.cell? ⟨g6, 0, none⟩ = some (.func (.func 27) #[] #[.pointer (some ⟨g5, 0, none⟩)]) := (blk_cell BG.out.d.b6 0).trans rfl
           go_wp2_with fail
           refine (fail_big (at' : Int) 7 BG.out).mono ?_
           rintro e wQ ⟨rfl, hg, hk⟩
           have BG := Aside0.mk hg
           obtain ⟨p, h5, hf⟩ := BG.out.d.b5
           obtain ⟨gf, rfl, hgf⟩ := hf
           have GF := Aside0.mk hgf
           have c5 : wQ.cell? ⟨g5, 0, none⟩ = some (.pointer (some ⟨gf, 0, none⟩)) := (blk_cell h5 0).trans rfl
           clear hg hk h5 hgf hlt e1 c4 c1 c6
           go_wp2_with fail
           have BE := Aside0.mk (BG.out.below (below_drew1 (Below.refl wQ.heap.size wQ)))
           have GFE := Aside0.mk (blk_drew GF.out)
           have c51 : wQ.drew.cell? ⟨g5, 0, none⟩ = some (.pointer (some ⟨gf, 0, none⟩)) := c5
           clear c5
           refine start_ (n := 5) (S := fun w' => w'.cell? ⟨g5, 0, none⟩ = some (.pointer (some ⟨gf, 0, none⟩))) (ds := []) #[false, false, false, false, false] (by kernel_rfl) rfl rfl c51 (fun hs => ?_)
           generalize wQ.drew = wX at *
           have Hs := Aside0.mk hs
           clear hs
           refine pure_ (i := 0) (N := some 108) (v := ?_) (a' := ?_) #[true, false, false, false, false] rfl rfl (by kernel_rfl) (fun _ _ _ h => h) (Or.inl ⟨by rfl, ?_⟩) ?_ ?_
           rotate_left
           · intro w'
             go_simp
             with_reducible rfl
           rotate_left
           · simp only [Act.put, List.setIfInBounds_toArray, List.set_cons_zero, List.set_cons_succ]
             rfl
           refine take_ (i := 1) (N := some 109) (v := .pointer (some ⟨gf, 0, none⟩)) #[true, true, false, false, false] rfl rfl (by kernel_rfl) (fun _ _ _ h => h) (Or.inl ⟨by rfl, ?_⟩) ?_ (a' := ?_) ?_ ?_
           · intro w' hS
             have t0 := hS
             clear hS
             go_simp
           · exact Hs.out
           rotate_left
           · simp only [Act.put, List.setIfInBounds_toArray, List.set_cons_zero, List.set_cons_succ]
             rfl
           refine pure_ (i := 2) (N := some 110) (v := ?_) (a' := ?_) #[true, true, true, false, false] rfl rfl (by kernel_rfl) (fun _ _ _ h => h) (Or.inl ⟨by rfl, ?_⟩) ?_ ?_
           rotate_left
           · intro w'
             go_simp
             with_reducible rfl
           rotate_left
           · simp only [Act.put, List.setIfInBounds_toArray, List.set_cons_zero, List.set_cons_succ]
             rfl
           have a0 : wX.cell? ⟨g2, 0, none⟩ = some (.int .u32 0) := (blk_cell BE.out.b2 0).trans rfl
           have a1 : wX.cell? ⟨g2, 1, none⟩ = some (.slice none 0 0) := (blk_cell BE.out.b2 1).trans rfl
           have f0 := blk_frozen BE.out.b2 0
           have f1 := blk_frozen BE.out.b2 1
           have q8 := blk_put BE.out.b2 0 (.int .u32 0) rfl
           obtain ⟨p9, h9, _⟩ := BE.out.d.b5
           refine one_ (i := 3) (N := none) #[true, true, true, true, false] rfl rfl (by kernel_rfl) (by decide) (fun K hK => ?_)
           refine skip_ (w1 := (wX.setCell ⟨g2, 0, none⟩ (.int .u32 0)).setCell ⟨g2, 1, none⟩ (.slice none 0 0)) (by rfl) rfl (by first | (go_simp; done) | (go_simp; rfl)) ?_
           refine hK.out _ _ ?_ (fun _ => ?_)
           · have h10 := blk_far (blk_far h9 (p := ⟨g2, 0, none⟩) (blk_ne h9 BE.out.b2 (by decide)) (.int .u32 0)) (p := ⟨g2, 1, none⟩) (blk_ne h9 BE.out.b2 (by decide)) (.slice none 0 0)
             exact (blk_cell h10 0).trans ((blk_cell h9 0).symm.trans c51)
           clear hK K Hs a0 a1 f0 f1 c51
           refine pure_ (i := 4) (N := some 3) (v := ?_) (a' := ?_) #[true, true, true, true, true] rfl rfl (by kernel_rfl) (fun _ _ _ h => h) (Or.inl ⟨by rfl, ?_⟩) ?_ ?_
           rotate_left
           · intro w'
             go_simp
             with_reducible rfl
           rotate_left
           · simp only [Act.put, List.setIfInBounds_toArray, List.set_cons_zero, List.set_cons_succ]
             rfl
           refine done_ (by kernel_rfl) ?_
           go_wp2_with fail
           refine bodyPost_ret (results_ct rfl _ _ g2 25 #[.int .u32 0, .slice none 0 0] (0, 0) _ rfl (blk_put q8 1 (.slice none 0 0) rfl) Try.underlying25 rfl (by kernel_rfl)) rfl ?_
           rw [HZ2.out, outE_some, outS_some]
           exact ⟨.slice none 0 0, _, rfl, Kd.S_nil _ _ _ _ _, ⟨gf, rfl, blk_far (blk_far GFE.out (p := ⟨g2, 0, none⟩) (blk_ne GFE.out BE.out.b2 (by decide)) _) (p := ⟨g2, 1, none⟩) (blk_ne GFE.out BE.out.b2 (by decide)) _⟩, below_set (below_set BE.out.d.be BE.out.l2) BE.out.l2⟩
         · have e1 : decide ((at' : Int) < (b.length : Int)) = false := decide_eq_false (by omega)
           have HZ2 : Aside0 (Z = (x3 % 4294967296, secs, none)) := ⟨by rw [HZ1.out, HRR.out, if_pos rfl, if_neg hlt]⟩
           obtain ⟨Av, cv, hv⟩ := Kd.S_slice BG.out.row
           subst hv
           have d0 : wr.cell? ⟨g10, 0, none⟩ = some (.int .u32 (x3 % 4294967296)) := (blk_cell BG.out.b10 0).trans rfl
           have d1 : wr.cell? ⟨g10, 1, none⟩ = some (.slice Av secs.length cv) := (blk_cell BG.out.b10 1).trans rfl
           have a0 : wr.cell? ⟨g2, 0, none⟩ = some (.int .u32 0) := (blk_cell BG.out.b2 0).trans rfl
           have a1 : wr.cell? ⟨g2, 1, none⟩ = some (.slice none 0 0) := (blk_cell BG.out.b2 1).trans rfl
           have f0 := blk_frozen BG.out.b2 0
           have f1 := blk_frozen BG.out.b2 1
           go_wp2_with fail
           refine bodyPost_ret (results_ct rfl _ _ g2 25 #[.int .u32 (x3 % 4294967296), .slice Av secs.length cv] (0, 0) _ rfl (blk_put (blk_put BG.out.b2 0 (.int .u32 (x3 % 4294967296)) rfl) 1 (.slice Av secs.length cv) rfl) Try.underlying25 rfl (by kernel_rfl)) rfl ?_
           rw [HZ2.out, outE_none, outS_none]
           exact ⟨.slice Av secs.length cv, .nilIface, rfl, Kd.S_set (Kd.S_set BG.out.row BG.out.b2 (by decide) 0 _) (blk_put BG.out.b2 0 (.int .u32 (x3 % 4294967296)) rfl) (by decide) 1 _, rfl, below_set (below_set BG.out.d.be BG.out.l2) BG.out.l2⟩
     · have hn1 : 0 < n := by omega
       have hf0 : f = none := by
         cases f with
         | none => rfl
         | some q => exact absurd (Or.inr (by simp)) hex
       subst hf0
       have hp : p = none := hf
       subst hp
       have e1 : decide ((0 : Int) < (n : Int)) = true := decide_eq_true (by omega)
       have c4 : wr.cell? ⟨g4, 0, none⟩ = some (.int .i64 (at' : Int)) := (blk_cell BG.out.d.b4 0).trans rfl
       have HN1 := Aside0.mk hn1
       clear hf hex
       go_wp2_with fail
       refine (within_big 6 0 4095 BG.out).mono ?_
       rintro e wA ⟨ga, gb, gc, rfl, hl, h1, h2, hg, hb⟩
       have BG := Aside0.mk hg
       have HL := Aside0.mk hl
       have HA4 := Aside0.mk h1
       have HB4 := Aside0.mk h2
       clear hl h1 h2 hb hg c5 c4 e1 hn1
       unfold ptr
       go_wp2_with fail
       refine (numw_big 2 6 0 4095 ga gb gc BG.out HI.out (by decide) HL.out HA4.out HB4.out).mono ?_
       rintro e wB ⟨he, hg, hk⟩
       obtain ⟨M1, hM1⟩ : ∃ N, N = numberS b at' none 2 (withinG 6 0 4095) := ⟨_, rfl⟩
       rw [← hM1] at he hg
       subst he
       have HM1 := Aside0.mk hM1
       have BG := Aside0.mk hg
       clear hM1 hg hk HL HA4 HB4
       go_wp2_with fail
       refine (within_big 6 1 7 BG.out).mono ?_
       rintro e wC ⟨ga, gb, gc, rfl, hl, h1, h2, hg, hb⟩
       have BG := Aside0.mk hg
       have HL := Aside0.mk hl
       have HA4 := Aside0.mk h1
       have HB4 := Aside0.mk h2
       clear hl h1 h2 hb hg
       unfold ptr
       go_wp2_with fail
       refine (numw_big 1 6 1 7 ga gb gc BG.out HI.out (by decide) HL.out HA4.out HB4.out).mono ?_
       rintro e wD ⟨he, hg, hk⟩
       obtain ⟨M2, hM2⟩ : ∃ N, N = numberS b M1.2.1 M1.2.2 1 (withinG 6 1 7) := ⟨_, rfl⟩
       rw [← hM2] at he hg
       subst he
       have HM2 := Aside0.mk hM2
       have BG := Aside0.mk hg
       obtain ⟨x1, hx1⟩ : ∃ x, x = M1.1 := ⟨_, rfl⟩
       obtain ⟨x2, hx2⟩ : ∃ x, x = M2.1 := ⟨_, rfl⟩
       rw [← hx1, ← hx2]
       have HX1 := Aside0.mk hx1
       have HX2 := Aside0.mk hx2
       clear hM2 hg hk HL HA4 HB4 hx1 hx2
       go_wp2_with (first | ((with_reducible refine gate_dst (N := 15) rfl ?_); refine box_event ?hg (N := 15) ?hd (cs := #[.int .i64 0, .int .i64 0, .slice none 0 0]) (t := 45) ?hr ?_; (case hd => rfl); (case hg => rfl); (case hr => first | (go_simp; done) | (go_simp; rfl)); intro g15 hg wE hbox hb; have G15 := Aside0.mk (show w.heap.size ≤ g15 by rw [hg]; exact BG.out.d.be.size); have B15 := Aside0.mk hbox; have BG := Aside0.mk ((big_elder BG.out g15 (by rw [hg]; exact Nat.le_refl _)).below hb); clear hg hbox hb; have a0 : wE.cell? ⟨g15, 0, none⟩ = some (.int .i64 0) := (blk_cell B15.out 0).trans rfl; have a1 : wE.cell? ⟨g15, 1, none⟩ = some (.int .i64 0) := (blk_cell B15.out 1).trans rfl; have a2 : wE.cell? ⟨g15, 2, none⟩ = some (.slice none 0 0) := (blk_cell B15.out 2).trans rfl; have f0 := blk_frozen B15.out 0; have f1 := blk_frozen B15.out 1; have f2 := blk_frozen B15.out 2) | ((with_reducible refine gate_store (t := 45) (p := 15) (v := .tmp 56) rfl ?_); refine store_event (t := 45) (p := 15) (v := .tmp 56) (w1 := ((wE.setCell ⟨g15, 0, none⟩ (.int .i64 x1)).setCell ⟨g15, 1, none⟩ (.int .i64 x2)).setCell ⟨g15, 2, none⟩ (.slice none 0 0)) rfl rfl rfl ?hr ?_; (case hr => first | (go_simp; done) | (go_simp; rfl)); intro wF hw; have q8 := blk_put B15.out 0 (.int .i64 x1) rfl; have q9 := blk_put q8 1 (.int .i64 x2) rfl; have BG := Aside0.mk (show Big w wF ⟨g1, g4, g5, g6, g7⟩ g2 g10 g11 A c b M2.2.1 M2.2.2 (x3 % 4294967296) v secs T (fun j => j ≠ g15) by rw [hw]; exact big_far (big_far (big_far BG.out (fun _ h => h) B15.out G15.out) (fun _ h => h) q8 G15.out) (fun _ h => h) q9 G15.out); have B15 : Aside0 (wF.heap[g15]? = some (.cells #[.int .i64 x1, .int .i64 x2, .slice none 0 0] 45 (0, 0))) := ⟨(by rw [hw]; exact blk_put q9 2 _ rfl)⟩; clear hw q8 q9 a0 a1 a2 f0 f1 f2))
       refine (nums_big 2 BG.out HI.out (by decide) HT.out).mono ?_
       rintro e wG ⟨he, hg, hk⟩
       obtain ⟨M3, hM3⟩ : ∃ N, N = numberS b M2.2.1 M2.2.2 2 (sizeG T) := ⟨_, rfl⟩
       have hb3 := numberS_bd2 HI.out.byt (b := b) (at' := M2.2.1) (f := M2.2.2) (G := sizeG T)
       rw [← hM3] at he hg hb3
       subst he
       obtain ⟨kk, hkk⟩ : ∃ kk : Nat, M3.1 = (kk : Int) := ⟨M3.1.toNat, by omega⟩
       have HKK : Aside0 (M3.1 = (kk : Int) ∧ kk ≤ 65535) := ⟨by omega⟩
       rw [hkk]
       have HM3 := Aside0.mk hM3
       have B15 := Aside0.mk (rest_cells hk BG.out.d B15.out (by decide) (by decide))
       have BG := Aside0.mk hg
       clear hM3 hg hk hb3 hkk
       obtain ⟨p3, h5, hf3⟩ := BG.out.d.b5
       have c5 : wG.cell? ⟨g5, 0, none⟩ = some (.pointer p3) := (blk_cell h5 0).trans rfl
       clear h5
       obtain ⟨f4, hf4⟩ : ∃ f4, f4 = if M3.2.2 = none then (if secE x1 x2 kk T L = 0 then none else some ((at' : Int), secE x1 x2 kk T L)) else M3.2.2 := ⟨_, rfl⟩
       have HF4 := Aside0.mk hf4
       clear hf4
       go_upto_if 61 with fail
       go_cut [] (fun wc => Big w wc ⟨g1, g4, g5, g6, g7⟩ g2 g10 g11 A c b M3.2.1 f4 (x3 % 4294967296) v secs T (fun j => j ≠ g15) ∧ wc.heap[g15]? = some (.cells #[.int .i64 x1, .int .i64 x2, .slice none 0 0] 45 (0, 0)))
       case first =>
         cases hq : M3.2.2 with
         | some q =>
           have HF5 : Aside0 (f4 = M3.2.2) := ⟨by rw [HF4.out, if_neg (by rw [hq]; simp)]⟩
           rw [hq] at hf3
           obtain ⟨q1, q2⟩ := q
           obtain ⟨gf, rfl, _⟩ := hf3
           clear hq
           skip
           go_wp2_with fail
           go_meet
           exact ⟨by rw [HF5.out]; exact BG.out, B15.out⟩
         | none =>
           rw [hq] at hf3
           have hp3 : p3 = none := hf3
           subst hp3
           have hsz := numberS_none (by rw [← HM3.out]; exact hq : (numberS b M2.2.1 M2.2.2 2 (sizeG T)).2.2 = none)
           rw [← HM3.out, HKK.out.1] at hsz
           have HSZ : Aside0 (1 ≤ kk ∧ T + (kk : Int) ≤ 16384) := ⟨sizeG_ok hsz⟩
           obtain ⟨e4, he4⟩ : ∃ e4, e4 = secE x1 x2 kk T L := ⟨_, rfl⟩
           have HF5 : Aside0 (f4 = if e4 = 0 then none else some ((at' : Int), e4)) := ⟨by rw [HF4.out, if_pos hq, ← he4]⟩
           have HE4 := Aside0.mk he4
           have HQ := Aside0.mk hq
           have c0 : wG.cell? ⟨g15, 0, none⟩ = some (.int .i64 x1) := (blk_cell B15.out 0).trans rfl
           have c1 : wG.cell? ⟨g15, 1, none⟩ = some (.int .i64 x2) := (blk_cell B15.out 1).trans rfl
           have c11 : wG.cell? ⟨g11, 0, none⟩ = some (.int .i64 T) := (blk_cell BG.out.b11 0).trans rfl
           clear hq hf3 hsz he4
           skip
           go_wp2_with fail
           have Hs0 := Aside0.mk (below_drew1 (Below.refl wG.heap.size wG))
           refine start_ (n := 11) (S := fun w' => Below wG.heap.size wG w') (ds := []) #[false, false, false, false, false, false, false, false, false, false, false] (by kernel_rfl) rfl rfl Hs0.out (fun hs => ?_)
           have Hs := Aside0.mk hs
           clear hs Hs0
           refine pure_ (i := 0) (N := some 62) (v := ?_) (a' := ?_) #[true, false, false, false, false, false, false, false, false, false, false] rfl rfl (by kernel_rfl) (fun _ _ _ h => h) (Or.inl ⟨by rfl, ?_⟩) ?_ ?_
           rotate_left
           · intro w'
             go_simp
             with_reducible rfl
           rotate_left
           · simp only [Act.put, List.setIfInBounds_toArray, List.set_cons_zero, List.set_cons_succ]
             rfl
           refine take_ (i := 1) (N := some 63) (v := .int .i64 x1) #[true, true, false, false, false, false, false, false, false, false, false] rfl rfl (by kernel_rfl) (fun _ _ _ h => h) (Or.inl ⟨by rfl, ?_⟩) ?_ (a' := ?_) ?_ ?_
           · intro w' hS
             have t0 := cell_below hS c0
             go_simp
           · exact Hs.out
           rotate_left
           · simp only [Act.put, List.setIfInBounds_toArray, List.set_cons_zero, List.set_cons_succ]
             rfl
           refine pure_ (i := 2) (N := some 64) (v := ?_) (a' := ?_) #[true, true, true, false, false, false, false, false, false, false, false] rfl rfl (by kernel_rfl) (fun _ _ _ h => h) (Or.inl ⟨by rfl, ?_⟩) ?_ ?_
           rotate_left
           · intro w'
             go_simp
             with_reducible rfl
           rotate_left
           · simp only [Act.put, List.setIfInBounds_toArray, List.set_cons_zero, List.set_cons_succ]
             rfl
           refine take_ (i := 3) (N := some 65) (v := .int .i64 x2) #[true, true, true, true, false, false, false, false, false, false, false] rfl rfl (by kernel_rfl) (fun _ _ _ h => h) (Or.inl ⟨by rfl, ?_⟩) ?_ (a' := ?_) ?_ ?_
           · intro w' hS
             have t0 := cell_below hS c1
             go_simp
           · exact Hs.out
           rotate_left
           · simp only [Act.put, List.setIfInBounds_toArray, List.set_cons_zero, List.set_cons_succ]
             rfl
           refine pure_ (i := 4) (N := some 66) (v := ?_) (a' := ?_) #[true, true, true, true, true, false, false, false, false, false, false] rfl rfl (by kernel_rfl) (fun _ _ _ h => h) (Or.inl ⟨by rfl, ?_⟩) ?_ ?_
           rotate_left
           · intro w'
             go_simp
             with_reducible rfl
           rotate_left
           · simp only [Act.put, List.setIfInBounds_toArray, List.set_cons_zero, List.set_cons_succ]
             rfl
           refine take_ (i := 7) (N := some 69) (v := .int .i64 T) #[true, true, true, true, true, false, false, true, false, false, false] rfl rfl (by kernel_rfl) (fun _ _ _ h => h) (Or.inl ⟨by rfl, ?_⟩) ?_ (a' := ?_) ?_ ?_
           · intro w' hS
             have t0 := cell_below hS c11
             go_simp
           · exact Hs.out
           rotate_left
           · simp only [Act.put, List.setIfInBounds_toArray, List.set_cons_zero, List.set_cons_succ]
             rfl
           refine pure_ (i := 8) (N := some 70) (v := ?_) (a' := ?_) #[true, true, true, true, true, false, false, true, true, false, false] rfl rfl (by kernel_rfl) (fun _ _ _ h => h) (Or.inl ⟨by rfl, ?_⟩) ?_ ?_
           rotate_left
           · intro w'
             go_simp
             with_reducible rfl
           rotate_left
           · simp only [Act.put, List.setIfInBounds_toArray, List.set_cons_zero, List.set_cons_succ]
             rfl
           refine one_ (i := 5) (N := some 67) #[true, true, true, true, true, true, false, true, true, false, false] rfl rfl (by kernel_rfl) (by decide) (fun K hK => ?_)
           refine Kd.R_make_step (Kd.int .u8) (w0 := wG.drew) wG.drew.heap.size 5 (by rfl) (N := 67) rfl 27 _ _ rfl (kk : Int) rfl rfl Try.underlying27 (.int .u8 0) 1 info5 rfl (by decide) (by decide) (0 : Int) (ok := fun _ => True) (okp := fun _ => False) rfl (fun _ h => h.elim) trivial (by omega) (by have := HKK.out.2; omega) (Below.refl _ _) (Nat.le_refl _) ?_
           intro vm wm hom hbm _ _
           rw [Int.toNat_natCast] at hom
           obtain ⟨zs, hzs⟩ : ∃ zs, zs = List.replicate kk (0 : Int) := ⟨_, rfl⟩
           rw [← hzs] at hom
           have HZL : Aside0 (zs.length = kk) := ⟨by rw [hzs, List.length_replicate]⟩
           obtain ⟨Am, cm, rfl, hcm, hrm⟩ := Kd.R_reads hom
           have HRM := Aside0.mk hrm
           have HCM := Aside0.mk hcm
           have HSEC : Aside0 (load_section.f 2 x1 x2 zs T L = some e4) := ⟨(section_f (k := 0) (s := ⟨x1, x2, zs⟩) (by show zs.length < _; have := HZL.out; have := HKK.out.2; omega) HT.out).trans (by rw [HE4.out, ← HZL.out]; rfl)⟩
           clear hom hzs hcm hrm
           refine hK.out _ _ (below_step Hs.out hbm) (fun hs => ?_)
           clear hK K hbm Hs
           have Hs := Aside0.mk hs
           clear hs
           refine norm_ (a' := ?_) ?_ ?_
           rotate_left
           · show Act.put _ (some 67) _ = _
             simp only [Act.put, List.setIfInBounds_toArray, List.set_cons_zero, List.set_cons_succ]
             rfl
           refine pure_ (i := 6) (N := some 68) (v := ?_) (a' := ?_) #[true, true, true, true, true, true, true, true, true, false, false] rfl rfl (by kernel_rfl) (fun _ _ _ h => h) (Or.inl ⟨by rfl, ?_⟩) ?_ ?_
           rotate_left
           · intro w'
             go_simp
             with_reducible rfl
           rotate_left
           · simp only [Act.put, List.setIfInBounds_toArray, List.set_cons_zero, List.set_cons_succ]
             rfl
           refine one_ (i := 9) (N := some 71) #[true, true, true, true, true, true, true, true, true, true, false] rfl rfl (by kernel_rfl) (by decide) (fun K hK => ?_)
           refine call_ 24 _ (by rfl) rfl (by go_simp; rfl) ?_
           refine (load_section.calls 2 x1 x2 Am cm zs T L e4 _ HRM.out HCM.out HSEC.out).mono ?_
           rintro e wJ ⟨rfl, hB⟩
           refine ⟨_, rfl, ?_⟩
           refine hK.out _ _ (below_step Hs.out hB) (fun hs => ?_)
           clear hK K hB Hs
           have Hs := Aside0.mk hs
           clear hs
           refine norm_ (a' := ?_) ?_ ?_
           rotate_left
           · show Act.put _ (some 71) _ = _
             simp only [Act.put, List.setIfInBounds_toArray, List.set_cons_zero, List.set_cons_succ]
             rfl
           refine pure_ (i := 10) (N := some 17) (v := ?_) (a' := ?_) #[true, true, true, true, true, true, true, true, true, true, true] rfl rfl (by kernel_rfl) (fun _ _ _ h => h) (Or.inl ⟨by rfl, ?_⟩) ?_ ?_
           rotate_left
           · intro w'
             go_simp
             with_reducible rfl
           rotate_left
           · simp only [Act.put, List.setIfInBounds_toArray, List.set_cons_zero, List.set_cons_succ]
             rfl
           refine done_ (by kernel_rfl) ?_
           have BG := Aside0.mk (BG.out.below Hs.out)
           have B15 := Aside0.mk (blk_below B15.out Hs.out)
           clear Hs c0 c1 c11 c5
           by_cases h4 : e4 = 0
           · have e5 : (e4 != 0) = false := by simp [h4]
             have HF6 : Aside0 (f4 = none) := ⟨by rw [HF5.out, if_pos h4]⟩
             clear h4
             go_wp2_with fail
             go_meet
             exact ⟨by rw [HF6.out]; have h := BG.out; rw [HQ.out] at h; exact h, B15.out⟩
           · have e5 : (e4 != 0) = true := by simp [h4]
             have HF6 : Aside0 (f4 = some ((at' : Int), e4)) := ⟨by rw [HF5.out, if_neg h4]⟩
             have c6 : wJ.cell? ⟨g6, 0, none⟩ = some (.func (.func 27) #[] #[.pointer (some ⟨g5, 0, none⟩)]) := (blk_cell BG.out.d.b6 0).trans rfl
             clear h4
             go_wp2_with fail
             refine (fail_big (at' : Int) e4 BG.out).mono ?_
             rintro e wL ⟨rfl, hg, hk⟩
             have B15 := Aside0.mk (rest_cells hk BG.out.d B15.out (by decide) (by decide))
             have BG := Aside0.mk hg
             clear hg hk c6
             go_wp2_with fail
             go_meet
             exact ⟨by rw [HF6.out]; have h := BG.out; rw [HQ.out] at h; exact h, B15.out⟩
       case rest =>
         obtain ⟨hg, h15⟩ := hcut
         have BG := Aside0.mk hg
         have B15 := Aside0.mk h15
         clear hg h15 c5 hf3
         obtain ⟨NN, hNN⟩ : ∃ N, N = wc.heap.size := ⟨_, rfl⟩
         have GN : Aside0 (g15 < NN) := ⟨by rw [hNN]; exact blk_lt B15.out⟩
         have GW : Aside0 (w.heap.size ≤ NN) := ⟨by rw [hNN]; exact BG.out.d.be.size⟩
         have BG : Aside0 (Big w wc ⟨g1, g4, g5, g6, g7⟩ g2 g10 g11 A c b M3.2.1 f4 (x3 % 4294967296) v secs T (fun j => j ≠ g15 ∧ j < NN)) := ⟨big_ok BG.out (fun j h1 h2 => ⟨h1, by rw [hNN]; exact h2⟩)⟩
         have HNN := Aside0.mk hNN
         have c7 : wc.cell? ⟨g7, 0, none⟩ = some (.func (.func 28) #[] #[.pointer (some ⟨g5, 0, none⟩), .pointer (some ⟨g1, 0, none⟩), .pointer (some ⟨g4, 0, none⟩), .pointer (some ⟨g6, 0, none⟩)]) := (blk_cell BG.out.d.b7 0).trans rfl
         have HSE : Aside0 (f4 = none → secE x1 x2 kk T L = 0) := ⟨fun h => f4_none (HF4.out.symm.trans h)⟩
         clear hNN
         go_wp2_with fail
         refine (take_big kk BG.out HI.out HKK.out.2 (fun h => (secE_ok (HSE.out h)).2.2.2.2.1)).mono ?_
         rintro e wH ⟨u, rfl, hg, hr, hk⟩
         obtain ⟨T5, hT5⟩ : ∃ T', T' = takeS b M3.2.1 f4 kk := ⟨_, rfl⟩
         rw [← hT5] at hg hr
         obtain ⟨A5, c5_, rfl, hc5, _⟩ := Kd.R_reads hr
         have HT5 := Aside0.mk hT5
         have HR5 : Aside0 (Kd.R (Kd.int .u8) 5 wH NN (fun _ => True) (.slice A5 T5.1.length c5_) T5.1) := ⟨by rw [HNN.out]; exact hr⟩
         have B15 := Aside0.mk (rest_cells hk BG.out.d B15.out (by decide) (by decide))
         have BG := Aside0.mk hg
         have HC5 := Aside0.mk hc5
         have HDS : Aside0 (decL b n T L secs at' none = if T5.2.2 = none then decL b (n - 1) (T + (kk : Int)) (endP x1 kk) (secs ++ [⟨x1, x2, T5.1⟩]) T5.2.1 none else decL b (n - 1) T L secs T5.2.1 T5.2.2) := ⟨by rw [decL_step HN1.out, oneS_is HM1.out HM2.out HM3.out HKK.out.1 HX1.out HX2.out HF4.out HT5.out]⟩
         have Z13 : Aside0 (wrap64 ((n : Int) - 1) = ((n - 1 : Nat) : Int)) := ⟨by have := HN1.out; have := HK.out.2; rw [w64 (by omega) (by omega)]; omega⟩
         have Z13b : Aside0 ((n : Int) - 1 = ((n - 1 : Nat) : Int)) := ⟨by have := HN1.out; omega⟩
         have c2 : wH.cell? ⟨g15, 2, none⟩ = some (.slice none 0 0) := (blk_cell B15.out 2).trans rfl
         have f2 := blk_frozen B15.out 2
         obtain ⟨p5, h5, hf5⟩ := BG.out.d.b5
         have H5 := Aside0.mk h5
         clear hT5 hg hr hk hc5 c7 h5
         cases hq5 : T5.2.2 with
         | some q =>
           rw [hq5] at hf5
           obtain ⟨q1, q2⟩ := q
           obtain ⟨gf, rfl, _⟩ := hf5
           have HDS2 : Aside0 (decL b (n - 1) T L secs T5.2.1 T5.2.2 = R) := ⟨by rw [← HR.out, HDS.out, if_neg (by rw [hq5]; simp)]⟩
           clear hq5
           go_wp2_with (first | ((with_reducible refine gate_store (t := 27) (p := 81) (v := .tmp 80) rfl ?_); refine store_event (t := 27) (p := 81) (v := .tmp 80) (w1 := wH.setCell ⟨g15, 2, none⟩ (.slice A5 T5.1.length c5_)) rfl rfl rfl ?hr ?_; (case hr => first | (go_simp; done) | (go_simp; rfl)); intro wI hw; have HR5 : Aside0 (Kd.R (Kd.int .u8) 5 wI NN (fun _ => True) (.slice A5 T5.1.length c5_) T5.1) := ⟨(by rw [hw]; exact rowb_far B15.out (by decide) HR5.out)⟩; have BG := Aside0.mk (show Big w wI ⟨g1, g4, g5, g6, g7⟩ g2 g10 g11 A c b T5.2.1 T5.2.2 (x3 % 4294967296) v secs T (fun j => j ≠ g15 ∧ j < NN) by rw [hw]; exact big_far BG.out (fun _ h => h.1) B15.out G15.out); have c5 : wI.cell? ⟨g5, 0, none⟩ = some (.pointer (some ⟨gf, 0, none⟩)) := (by rw [hw]; exact (blk_cell (blk_far H5.out (blk_ne H5.out B15.out (by decide)) _) 0).trans rfl); have B15 : Aside0 (wI.heap[g15]? = some (.cells #[.int .i64 x1, .int .i64 x2, .slice A5 T5.1.length c5_] 45 (0, 0))) := ⟨(by rw [hw]; exact blk_put B15.out 2 _ rfl)⟩; clear hw c2 f2))
           go_roundg (n - 1)
           case measure =>
             have := HN1.out
             have := HK.out.1
             omega
           case rel => exact ⟨n - 1, T, L, secs, T5.2.1, T5.2.2, v, rfl, congrArg _ (by first | exact Z13.out | exact Z13b.out), ⟨rfl, by have := HK.out.2; omega⟩, HDS2, HT, ⟨big_ok BG.out (fun _ _ _ => trivial)⟩⟩
         | none =>
           rw [hq5] at hf5
           have hp5 : p5 = none := hf5
           subst hp5
           obtain ⟨hf4n, hlen⟩ := takeS_none (by rw [← HT5.out]; exact hq5 : (takeS b M3.2.1 f4 kk).2.2 = none)
           rw [← HT5.out] at hlen
           have HLEN := Aside0.mk hlen
           have HOK := Aside0.mk (secE_ok (HSE.out hf4n))
           obtain ⟨en, hen⟩ : ∃ en, en = endP x1 kk := ⟨_, rfl⟩
           have HEND : Aside0 (load_end.f x1 x2 T5.1 = some en) := ⟨by rw [hen, ← hlen]; exact end_f (by have := HOK.out; omega) (by have := HOK.out; have := HKK.out.2; omega) (by have := HOK.out; omega)⟩
           have HDS2 : Aside0 (decL b (n - 1) (T + (kk : Int)) en (secs ++ [⟨x1, x2, T5.1⟩]) T5.2.1 none = R) := ⟨by rw [← HR.out, HDS.out, if_pos hq5, hen]⟩
           have hgn := BG.out
           rw [hq5] at hgn
           obtain ⟨Av, cv, hv⟩ := Kd.S_slice hgn.row
           subst hv
           have BG := Aside0.mk hgn
           have zT : wrap64 (T + (kk : Int)) = T + (kk : Int) := by
             have := HT.out
             have := HKK.out.2
             exact w64 (by omega) (by omega)
           have zT2 : IntKind.i64.wrap (T + (kk : Int)) = T + (kk : Int) := by rw [i64_w, zT]
           clear hq5 hf5 hf4n hlen hen hgn
           go_wp2_with (first | ((with_reducible refine gate_store (t := 27) (p := 81) (v := .tmp 80) rfl ?_); refine store_event (t := 27) (p := 81) (v := .tmp 80) (w1 := wH.setCell ⟨g15, 2, none⟩ (.slice A5 T5.1.length c5_)) rfl rfl rfl ?hr ?_; (case hr => first | (go_simp; done) | (go_simp; rfl)); intro wI hw; have HR5 : Aside0 (Kd.R (Kd.int .u8) 5 wI NN (fun _ => True) (.slice A5 T5.1.length c5_) T5.1) := ⟨(by rw [hw]; exact rowb_far B15.out (by decide) HR5.out)⟩; have BG := Aside0.mk (show Big w wI ⟨g1, g4, g5, g6, g7⟩ g2 g10 g11 A c b T5.2.1 none (x3 % 4294967296) (.slice Av secs.length cv) secs T (fun j => j ≠ g15 ∧ j < NN) by rw [hw]; exact big_far BG.out (fun _ h => h.1) B15.out G15.out); have c5 : wI.cell? ⟨g5, 0, none⟩ = some (.pointer none) := (by rw [hw]; exact (blk_cell (blk_far H5.out (blk_ne H5.out B15.out (by decide)) _) 0).trans rfl); have B15 : Aside0 (wI.heap[g15]? = some (.cells #[.int .i64 x1, .int .i64 x2, .slice A5 T5.1.length c5_] 45 (0, 0))) := ⟨(by rw [hw]; exact blk_put B15.out 2 _ rfl)⟩; clear hw c2 f2; have c11 : wI.cell? ⟨g11, 0, none⟩ = some (.int .i64 T) := (blk_cell BG.out.b11 0).trans rfl; have d0 : wI.cell? ⟨g15, 0, none⟩ = some (.int .i64 x1) := (blk_cell B15.out 0).trans rfl; have d1 : wI.cell? ⟨g15, 1, none⟩ = some (.int .i64 x2) := (blk_cell B15.out 1).trans rfl; have d2 : wI.cell? ⟨g15, 2, none⟩ = some (.slice A5 T5.1.length c5_) := (blk_cell B15.out 2).trans rfl))
           have Hs0 := Aside0.mk (below_drew1 (Below.refl wI.heap.size wI))
           refine start_ (n := 7) (S := fun w' => Below wI.heap.size wI w') (ds := [5]) #[false, false, false, false, false, false, false] (by kernel_rfl) rfl rfl Hs0.out (fun hs => ?_)
           have Hs := Aside0.mk hs
           clear hs Hs0
           refine take_ (i := 0) (N := some 84) (v := .int .i64 T) #[true, false, false, false, false, false, false] rfl rfl (by kernel_rfl) (fun _ _ _ h => h) (Or.inl ⟨by rfl, ?_⟩) ?_ (a' := ?_) ?_ ?_
           · intro w' hS
             have t0 := cell_below hS c11
             go_simp
           · exact Hs.out
           rotate_left
           · simp only [Act.put, List.setIfInBounds_toArray, List.set_cons_zero, List.set_cons_succ]
             rfl
           refine pure_ (i := 1) (N := some 85) (v := ?_) (a' := ?_) #[true, true, false, false, false, false, false] rfl rfl (by kernel_rfl) (fun _ _ _ h => h) (Or.inl ⟨by rfl, ?_⟩) ?_ ?_
           rotate_left
           · intro w'
             go_simp
             with_reducible rfl
           rotate_left
           · simp only [Act.put, List.setIfInBounds_toArray, List.set_cons_zero, List.set_cons_succ]
             rfl
           refine pure_ (i := 2) (N := some 86) (v := ?_) (a' := ?_) #[true, true, true, false, false, false, false] rfl rfl (by kernel_rfl) (fun _ _ _ h => h) (Or.inl ⟨by rfl, ?_⟩) ?_ ?_
           rotate_left
           · intro w'
             go_simp
             with_reducible rfl
           rotate_left
           · simp only [Act.put, List.setIfInBounds_toArray, List.set_cons_zero, List.set_cons_succ]
             rfl
           refine take_ (i := 3) (N := some 87) (v := .agg #[.int .i64 x1, .int .i64 x2, .slice A5 T5.1.length c5_]) #[true, true, true, true, false, false, false] rfl rfl (by kernel_rfl) (fun _ _ _ h => h) (Or.inl ⟨by rfl, ?_⟩) ?_ (a' := ?_) ?_ ?_
           · intro w' hS
             have t0 := cell_below hS d0
             have t1 := cell_below hS d1
             have t2 := cell_below hS d2
             go_simp
           · exact Hs.out
           rotate_left
           · simp only [Act.put, List.setIfInBounds_toArray, List.set_cons_zero, List.set_cons_succ]
             rfl
           refine one_ (i := 4) (N := some 88) #[true, true, true, true, true, false, false] rfl rfl (by kernel_rfl) (by decide) (fun K hK => ?_)
           refine call_ 23 _ (by rfl) rfl (by go_simp; rfl) ?_
           refine (load_end.calls x1 x2 A5 c5_ T5.1 en _ (Kd.R_reads' (Kd.R_below HR5.out Hs.out)).2.2 HC5.out HEND.out).mono ?_
           rintro e wJ ⟨rfl, hB⟩
           refine ⟨_, rfl, ?_⟩
           refine hK.out _ _ (below_step Hs.out hB) (fun hs => ?_)
           clear hK K hB Hs
           have Hs := Aside0.mk hs
           clear hs
           refine norm_ (a' := ?_) ?_ ?_
           rotate_left
           · show Act.put _ (some 88) _ = _
             simp only [Act.put, List.setIfInBounds_toArray, List.set_cons_zero, List.set_cons_succ]
             rfl
           have BG := Aside0.mk (BG.out.below Hs.out)
           have B15 := Aside0.mk (blk_below B15.out Hs.out)
           have HR5 := Aside0.mk (Kd.R_below HR5.out Hs.out)
           clear c11 d0 d1 d2 c5
           have a0 : wJ.cell? ⟨g11, 0, none⟩ = some (.int .i64 T) := (blk_cell BG.out.b11 0).trans rfl
           have f0 := blk_frozen BG.out.b11 0
           refine last_ (i := 5) (N := none) #[true, true, true, true, true, true, false] rfl rfl (by kernel_rfl) (by decide) (fun K hK => ?_)
           refine skip_ (w1 := wJ.setCell ⟨g11, 0, none⟩ (.int .i64 (T + (kk : Int)))) (by rfl) rfl (by first | (go_simp; done) | (go_simp; rfl)) ?_
           refine hK.out _ _ ?_
           clear hK K Hs a0 f0
           refine pure_ (i := 6) (N := some 12) (v := ?_) (a' := ?_) #[true, true, true, true, true, true, true] rfl rfl (by kernel_rfl) (fun _ _ _ h => h) (Or.inl ⟨by rfl, ?_⟩) ?_ ?_
           rotate_left
           · intro w'
             go_simp
             with_reducible rfl
           rotate_left
           · simp only [Act.put, List.setIfInBounds_toArray, List.set_cons_zero, List.set_cons_succ]
             rfl
           refine done_ (by kernel_rfl) ?_
           have HR5 := Aside0.mk (rowb_far (j := 0) (u := .int .i64 (T + (kk : Int))) BG.out.b11 (by decide) HR5.out)
           have B15 := Aside0.mk (blk_far B15.out (p := ⟨g11, 0, none⟩) (blk_ne B15.out BG.out.b11 (by decide)) (.int .i64 (T + (kk : Int))))
           have BG := Aside0.mk (big_total (T' := T + (kk : Int)) BG.out)
           generalize wJ.setCell ⟨g11, 0, none⟩ (.int .i64 (T + (kk : Int))) = wK at *
           have d0 : wK.cell? ⟨g15, 0, none⟩ = some (.int .i64 x1) := (blk_cell B15.out 0).trans rfl
           have d1 : wK.cell? ⟨g15, 1, none⟩ = some (.int .i64 x2) := (blk_cell B15.out 1).trans rfl
           have d2 : wK.cell? ⟨g15, 2, none⟩ = some (.slice A5 T5.1.length c5_) := (blk_cell B15.out 2).trans rfl
           have c101 : wK.cell? ⟨g10, 1, none⟩ = some (.slice Av secs.length cv) := (blk_cell BG.out.b10 1).trans rfl
           go_wp2_with (first | ((with_reducible refine gate_builtin (b := .append) (xs := #[.tmp 90, .tmp 92]) rfl ?_); at_builtin; refine Kd.S_append k45 (w0 := w) w.heap.size rfl (.tmp 90) (.tmp 92) 23 45 (.agg #[(.int .i64 0), (.int .i64 0), (.slice none 0 0)]) 40 rfl Try.underlying23 info45 rfl (by decide) (by omega) (.slice Av secs.length cv) secs (⟨x1, x2, T5.1⟩ : S45) [.int .i64 x1, .int .i64 x2, .slice A5 T5.1.length c5_] (fun j => j ≠ g15) (fun j => some j = (.slice A5 T5.1.length c5_ : Value).ownBlock) rfl rfl (k45_mkM _ _ _ (⟨x1, x2, T5.1⟩ : S45) (Kd.R_mono (Kd.R_tight rfl (Kd.R_lower HR5.out GW.out)) (fun _ h => h))) ?hokp ?hfresh ?HO BG.out.d.be BG.out.d.be.size (by have := HK.out.2; omega) ?_; (case hokp => exact fun j hj => (by have h1 := Kd.R_base HR5.out j hj.symm; exact ⟨by have := GN.out; omega, fun e => by have h2 := (Kd.S_R BG.out.row).1 j e.symm; omega⟩)); (case hfresh => exact fun j hj => (by have := blk_lt B15.out; omega)); (case HO => exact Kd.S_mono BG.out.row (fun j hj => ⟨hj.1, fun e => by have h1 := Kd.R_base HR5.out j e.symm; have := hj.2; omega⟩)); intro v8 wM ho hb hgr _; obtain ⟨ys, hys⟩ : ∃ ys, ys = secs ++ [(⟨x1, x2, T5.1⟩ : S45)] := ⟨_, rfl⟩; rw [← hys] at ho; have HYS := Aside0.mk hys; obtain ⟨A8, c8, hv8⟩ := Kd.S_slice ho; subst hv8; have HG := Aside0.mk (big_grown BG.out hgr hb); have HS8 := Aside0.mk (Kd.S_mono ho (ok' := fun _ => True) (fun _ _ => trivial)); clear ho hb hgr hys d0 d1 d2 c101; have e0 : wM.cell? ⟨g10, 1, none⟩ = some (.slice Av secs.length cv) := (blk_cell HG.out.2.2.1 1).trans rfl; have e1 := blk_frozen HG.out.2.2.1 1) | ((with_reducible refine gate_store (t := 23) (p := 94) (v := .tmp 93) rfl ?_); refine store_event (t := 23) (p := 94) (v := .tmp 93) (w1 := wM.setCell ⟨g10, 1, none⟩ (.slice A8 ys.length c8)) rfl rfl rfl ?hr ?_; (case hr => first | (go_simp; done) | (go_simp; rfl)); intro wN hw; have BG : Aside0 (Big w wN ⟨g1, g4, g5, g6, g7⟩ g2 g10 g11 A c b T5.2.1 none (x3 % 4294967296) (.slice A8 ys.length c8) ys (T + (kk : Int)) (fun _ => True)) := ⟨(by rw [hw]; exact big_put HG.out.1 HG.out.2.1 HG.out.2.2.1 HG.out.2.2.2 HS8.out BG.out.n11 BG.out.n210 BG.out.l2 BG.out.l10 BG.out.l11)⟩; clear hw e0 e1))
           go_roundg (n - 1)
           case measure =>
             have := HN1.out
             have := HK.out.1
             omega
           case rel => exact ⟨n - 1, T + (kk : Int), en, ys, T5.2.1, none, .slice A8 ys.length c8, rfl, congrArg _ (by first | exact Z13.out | exact Z13b.out), ⟨rfl, by have := HK.out.2; have := HN1.out; rw [HYS.out, List.length_append]; simp only [List.length_cons, List.length_nil]; omega⟩, ⟨by rw [HYS.out]; exact HDS2.out⟩, ⟨by have := HOK.out; have := HT.out; omega, by have := HOK.out; omega⟩, BG⟩
end Go.Proofs.Ytiinflgoflkomaa.LoadDec
