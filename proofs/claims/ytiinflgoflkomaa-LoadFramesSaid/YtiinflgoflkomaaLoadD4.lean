/- load.Decode: what it holds, the numbers it reads, and the answer (plain). -/
import Derived.Test.YtiinflgoflkomaaLoadD3
namespace Go.Proofs.Ytiinflgoflkomaa.LoadD4
open Go.RowKit Go.Proofs.Ytiinflgoflkomaa.PLoadChecks Go.Proofs.YtiinflgoflkomaaW.PrintWords Go.Proofs.YtiinflgoflkomaaW.PrintLast Go.Proofs.YtiinflgoflkomaaW.PrintMore Go.Proofs.Ytiinflgoflkomaa.Aid Go.Proofs.Ytiinflgoflkomaa.LoadF Go.Proofs.Ytiinflgoflkomaa.LoadSame2 Go.Proofs.Ytiinflgoflkomaa.LoadEnc Go.Proofs.Ytiinflgoflkomaa.LoadPg Go.Proofs.Ytiinflgoflkomaa.LoadPure Go.Proofs.Ytiinflgoflkomaa.LoadD0 Go.Proofs.Ytiinflgoflkomaa.LoadD1 Go.Proofs.Ytiinflgoflkomaa.LoadD2 Go.Proofs.Ytiinflgoflkomaa.LoadD3 Go.Proofs.Ytiinflgoflkomaa.LoadGet
set_option linter.unusedVariables false
set_option linter.unusedSimpArgs false
structure Inp (w0 : World) (A : Option Addr) (c : Nat) (b : List Int) : Prop where
  row : Kd.C (Kd.int .u8) w0 A b.length b
  cap : b.length ≤ c
  len : b.length ≤ 140737488351232
  byt : ∀ x ∈ b, 0 ≤ x ∧ x < 256
structure Big (w0 w : World) (k : K5) (g2 g10 g11 : Nat) (A : Option Addr) (c : Nat) (b : List Int) (at' : Nat) (f : Option (Int × Int)) (E : Int) (v : Value) (secs : List S45) (T : Int) (ok : Nat → Prop) : Prop where
  d : Dst w0 w k A c b at' f
  b2 : w.heap[g2]? = some (.cells #[.int .u32 0, .slice none 0 0] 25 (0, 0))
  b10 : w.heap[g10]? = some (.cells #[.int .u32 E, v] 25 (0, 0))
  b11 : w.heap[g11]? = some (.cells #[.int .i64 T] 3 (0, 0))
  row : Kd.S k45 45 w w0.heap.size ok v secs
  n11 : g11 ≠ k.g4
  n210 : g2 ≠ g10
  l2 : w0.heap.size ≤ g2
  l10 : w0.heap.size ≤ g10
  l11 : w0.heap.size ≤ g11
section
variable {w0 w w' : World} {k : K5} {g2 g10 g11 : Nat} {A : Option Addr} {c : Nat} {b : List Int} {at' at2 : Nat} {f f2 : Option (Int × Int)} {E : Int} {v : Value} {secs : List S45} {T : Int} {ok : Nat → Prop}
theorem Big.rest (h : Big w0 w k g2 g10 g11 A c b at' f E v secs T ok) (hd : Dst w0 w' k A c b at2 f2) (hr : RestK k w w') : Big w0 w' k g2 g10 g11 A c b at2 f2 E v secs T ok := by
  obtain ⟨p, h5, _⟩ := h.d.b5
  refine ⟨hd, hr.cells h.b2 (blk_ne h.b2 h.d.b4 (by decide)) (by decide) h5, hr.cells h.b10 (blk_ne h.b10 h.d.b4 (by decide)) (by decide) h5, hr.cells h.b11 h.n11 (by decide) h5, ?_, h.n11, h.n210, h.l2, h.l10, h.l11⟩
  have h4 := Kd.S_types (Kd.S_types h.row h.d.b4 (by decide)) h5 (by decide)
  refine Kd.S_mono (Kd.S_step h4 (fun j hj hlt => ?_)) (fun _ hk => hk.1.1)
  obtain ⟨o, ho⟩ : ∃ o, w.heap[j]? = some o := ⟨w.heap[j], Array.getElem?_eq_getElem hlt⟩
  rw [ho]
  exact hr.2 j o ho hj.1.2 hj.2
theorem Big.below (h : Big w0 w k g2 g10 g11 A c b at' f E v secs T ok) (hb : Below w.heap.size w w') : Big w0 w' k g2 g10 g11 A c b at' f E v secs T ok := h.rest (h.d.below hb) (RestK.below hb)
theorem take_big (n : Nat) (h : Big w0 w k g2 g10 g11 A c b at' f E v secs T ok) (hi : Inp w0 A c b) (hn : n ≤ 65535) (hn1 : f = none → 1 ≤ n) :
    Calls Try.prog 28 #[.int .i64 (n : Int), ptr k.g5, ptr k.g1, ptr k.g4, ptr k.g6] w fun e w' => ∃ u, e = .returned u ∧ Big w0 w' k g2 g10 g11 A c b (takeS b at' f n).2.1 (takeS b at' f n).2.2 E v secs T ok ∧ Kd.R (Kd.int .u8) 5 w' w.heap.size (fun _ => True) u (takeS b at' f n).1 ∧ RestK k w w' :=
  (take_calls w0 w k A c b at' f n ⟨h.d⟩ ⟨hi.row⟩ ⟨hi.cap⟩ ⟨hi.len⟩ ⟨hn⟩ ⟨hn1⟩ ⟨h.d.be.size⟩).mono fun e w' ⟨u, he, hd, hr, hk⟩ => ⟨u, he, h.rest hd hk, hr, hk⟩
theorem fail_big (x e : Int) (h : Big w0 w k g2 g10 g11 A c b at' f E v secs T ok) :
    Calls Try.prog 27 #[.int .i64 x, .int .i64 e, ptr k.g5] w fun e' w' => e' = .returned (.tuple #[]) ∧ Big w0 w' k g2 g10 g11 A c b at' (failS f x e) E v secs T ok ∧ RestK k w w' :=
  (fail_calls w0 w k A c b at' f x e ⟨h.d⟩).mono fun e' w' ⟨he, hd, hk⟩ => ⟨he, h.rest hd hk, hk⟩
theorem within_big (e lo hi : Int) (h : Big w0 w k g2 g10 g11 A c b at' f E v secs T ok) :
    Calls Try.prog 31 #[.int .i64 e, .int .i64 lo, .int .i64 hi] w fun e' w' => ∃ ga gb gc : Nat, e' = .returned (.func (.func 32) #[] #[ptr ga, ptr gb, ptr gc]) ∧ Lim w' ga gb gc e lo hi ∧ ga ≠ k.g4 ∧ gb ≠ k.g4 ∧ Big w0 w' k g2 g10 g11 A c b at' f E v secs T ok ∧ Below w.heap.size w w' :=
  (within_calls e lo hi w).mono fun e' w' ⟨ga, gb, gc, he, hl, h1, h2, hb⟩ => ⟨ga, gb, gc, he, hl, by have := blk_lt h.d.b4; omega, by have := blk_lt h.d.b4; omega, h.below hb, hb⟩
theorem numw_big (n : Nat) (e lo hi : Int) (ga gb gc : Nat) (h : Big w0 w k g2 g10 g11 A c b at' f E v secs T ok) (hi' : Inp w0 A c b) (hn : 1 ≤ n ∧ n ≤ 4) (hl : Lim w ga gb gc e lo hi) (ha : ga ≠ k.g4) (hb : gb ≠ k.g4) :
    Calls Try.prog 29 #[.int .i64 (n : Int), .func (.func 32) #[] #[ptr ga, ptr gb, ptr gc], ptr k.g4, ptr k.g7, ptr k.g5, ptr k.g6] w fun e' w' => e' = .returned (.int .i64 (numberS b at' f n (withinG e lo hi)).1) ∧ Big w0 w' k g2 g10 g11 A c b (numberS b at' f n (withinG e lo hi)).2.1 (numberS b at' f n (withinG e lo hi)).2.2 E v secs T ok ∧ RestK k w w' :=
  (number_calls w0 w k A c b at' f n (withinG e lo hi) 32 #[ptr ga, ptr gb, ptr gc] ⟨h.d⟩ ⟨hi'.row⟩ ⟨hi'.cap⟩ ⟨hi'.len⟩ ⟨hn⟩ ⟨hi'.byt⟩ enter_within ⟨fun x w1 _ _ hr => within1_calls e lo hi x ga gb gc w1 (hl.rest h.d ha hb hr)⟩).mono fun e' w' ⟨he, hd, hk⟩ => ⟨he, h.rest hd hk, hk⟩
theorem nume_big (n : Nat) (h : Big w0 w k g2 g10 g11 A c b at' f E v secs T ok) (hi' : Inp w0 A c b) (hn : 1 ≤ n ∧ n ≤ 4) :
    Calls Try.prog 29 #[.int .i64 (n : Int), .func (.func 33) #[] #[], ptr k.g4, ptr k.g7, ptr k.g5, ptr k.g6] w fun e' w' => e' = .returned (.int .i64 (numberS b at' f n entryG).1) ∧ Big w0 w' k g2 g10 g11 A c b (numberS b at' f n entryG).2.1 (numberS b at' f n entryG).2.2 E v secs T ok ∧ RestK k w w' :=
  (number_calls w0 w k A c b at' f n entryG 33 #[] ⟨h.d⟩ ⟨hi'.row⟩ ⟨hi'.cap⟩ ⟨hi'.len⟩ ⟨hn⟩ ⟨hi'.byt⟩ enter_entry ⟨fun x w1 _ _ hr => entry_calls x w1⟩).mono fun e' w' ⟨he, hd, hk⟩ => ⟨he, h.rest hd hk, hk⟩
theorem nums_big (n : Nat) (h : Big w0 w k g2 g10 g11 A c b at' f E v secs T ok) (hi' : Inp w0 A c b) (hn : 1 ≤ n ∧ n ≤ 4) (hT : 0 ≤ T ∧ T ≤ 16384) :
    Calls Try.prog 29 #[.int .i64 (n : Int), .func (.func 34) #[] #[ptr g11], ptr k.g4, ptr k.g7, ptr k.g5, ptr k.g6] w fun e' w' => e' = .returned (.int .i64 (numberS b at' f n (sizeG T)).1) ∧ Big w0 w' k g2 g10 g11 A c b (numberS b at' f n (sizeG T)).2.1 (numberS b at' f n (sizeG T)).2.2 E v secs T ok ∧ RestK k w w' :=
  (number_calls w0 w k A c b at' f n (sizeG T) 34 #[ptr g11] ⟨h.d⟩ ⟨hi'.row⟩ ⟨hi'.cap⟩ ⟨hi'.len⟩ ⟨hn⟩ ⟨hi'.byt⟩ enter_size ⟨fun x w1 h0 h1 hr => by
    obtain ⟨p, h5, _⟩ := h.d.b5
    exact size_calls T x g11 w1 (hr.cells h.b11 h.n11 (by decide) h5) hT ⟨h0, h1⟩⟩).mono fun e' w' ⟨he, hd, hk⟩ => ⟨he, h.rest hd hk, hk⟩
end
/-- One section: what is read, how many bytes, where, what is wrong. -/
structure One where
  s : S45
  k : Nat
  at' : Nat
  f : Option (Int × Int)
def oneS (b : List Int) (T L : Int) (at' : Nat) : One :=
  let n1 := numberS b at' none 2 (withinG 6 0 4095)
  let n2 := numberS b n1.2.1 n1.2.2 1 (withinG 6 1 7)
  let n3 := numberS b n2.2.1 n2.2.2 2 (sizeG T)
  let f4 := if n3.2.2 = none then (if secE n1.1 n2.1 n3.1.toNat T L = 0 then none else some ((at' : Int), secE n1.1 n2.1 n3.1.toNat T L)) else n3.2.2
  let t := takeS b n3.2.1 f4 n3.1.toNat
  ⟨⟨n1.1, n2.1, t.1⟩, n3.1.toNat, t.2.1, t.2.2⟩
def decL (b : List Int) : Nat → Int → Int → List S45 → Nat → Option (Int × Int) → List S45 × Nat × Option (Int × Int)
  | 0, _, _, secs, at', f => (secs, at', f)
  | n + 1, T, L, secs, at', f => if f = none then (if (oneS b T L at').f = none then decL b n (T + (oneS b T L at').k) (endP (oneS b T L at').s.f0 (oneS b T L at').k) (secs ++ [(oneS b T L at').s]) (oneS b T L at').at' none else decL b n T L secs (oneS b T L at').at' (oneS b T L at').f) else (secs, at', f)
theorem decL_some (b : List Int) (n : Nat) (T L : Int) (secs : List S45) (at' : Nat) {f : Option (Int × Int)} (h : f ≠ none) : decL b n T L secs at' f = (secs, at', f) := by
  cases n with
  | zero => rfl
  | succ n => rw [decL, if_neg h]
structure Head where
  e : Int
  n : Int
  at' : Nat
  f : Option (Int × Int)
def headS (b : List Int) : Head :=
  let t1 := takeS b 0 none 4
  let f1 := if t1.1 = [86, 82, 73, 77] then t1.2.2 else failS t1.2.2 0 130
  let n2 := numberS b t1.2.1 f1 1 (withinG 131 1 1)
  let n3 := numberS b n2.2.1 n2.2.2 4 entryG
  let n4 := numberS b n3.2.1 n3.2.2 1 (withinG 9 0 16)
  ⟨n3.1, n4.1, n4.2.1, n4.2.2⟩
/-- What load.Decode answers: entry, sections, the fault. -/
def decS (b : List Int) : Int × List S45 × Option (Int × Int) :=
  let h := headS b
  let r := decL b h.n.toNat 0 (-1) [] h.at' h.f
  (h.e % 4294967296, r.1, if r.2.2 = none then (if r.2.1 < b.length then some ((r.2.1 : Int), 7) else none) else r.2.2)
end Go.Proofs.Ytiinflgoflkomaa.LoadD4
