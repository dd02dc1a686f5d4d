/- load.Decode's closures number and what is asked of numbers. -/
import Derived.Test.YtiinflgoflkomaaLoadD1
namespace Go.Proofs.Ytiinflgoflkomaa.LoadD2
open Go.RowKit Go.Proofs.Ytiinflgoflkomaa.PLoadChecks Go.Proofs.YtiinflgoflkomaaW.PrintWords Go.Proofs.YtiinflgoflkomaaW.PrintLast Go.Proofs.YtiinflgoflkomaaW.PrintMore Go.Proofs.Ytiinflgoflkomaa.Aid Go.Proofs.Ytiinflgoflkomaa.LoadF Go.Proofs.Ytiinflgoflkomaa.LoadSame2 Go.Proofs.Ytiinflgoflkomaa.LoadEnc Go.Proofs.Ytiinflgoflkomaa.LoadPg Go.Proofs.Ytiinflgoflkomaa.LoadD0 Go.Proofs.Ytiinflgoflkomaa.LoadD1 Go.Proofs.Ytiinflgoflkomaa.LoadGet
set_option linter.unusedVariables false
set_option linter.unusedSimpArgs false
/-- A number of so many bytes, and what is asked of it. -/
def numberS (b : List Int) (at' : Nat) (f : Option (Int × Int)) (n : Nat) (G : Int → Int) : Int × Nat × Option (Int × Int) :=
  (val (takeS b at' f n).1, (takeS b at' f n).2.1, if (takeS b at' f n).2.2 = none then (if G (val (takeS b at' f n).1) = 0 then none else some ((at' : Int), G (val (takeS b at' f n).1))) else (takeS b at' f n).2.2)
theorem takeS_mem {b : List Int} (hb : ∀ x ∈ b, 0 ≤ x ∧ x < 256) {at' : Nat} {f : Option (Int × Int)} {n : Nat} : (∀ x ∈ (takeS b at' f n).1, 0 ≤ x ∧ x < 256) ∧ (takeS b at' f n).1.length ≤ n := by
  unfold takeS
  split
  · split
    · exact ⟨fun x hx => by simp at hx, by simp⟩
    · refine ⟨fun x hx => hb x (List.mem_of_mem_drop (List.mem_of_mem_take hx)), ?_⟩
      rw [List.length_take]
      exact Nat.min_le_left _ _
  · exact ⟨fun x hx => by simp at hx, by simp⟩
theorem takeS_val {b : List Int} (hb : ∀ x ∈ b, 0 ≤ x ∧ x < 256) {at' : Nat} {f : Option (Int × Int)} {n : Nat} (hn : n ≤ 4) : 0 ≤ val (takeS b at' f n).1 ∧ val (takeS b at' f n).1 < 4294967296 := by
  obtain ⟨h1, h2⟩ := takeS_mem hb (at' := at') (f := f) (n := n)
  have h3 := val_bound _ h1
  have h4 : (256 : Int) ^ (takeS b at' f n).1.length ≤ 4294967296 := by
    have h5 : (256 : Nat) ^ (takeS b at' f n).1.length ≤ 256 ^ 4 := Nat.pow_le_pow_right (by decide) (by omega)
    have e : ((256 ^ (takeS b at' f n).1.length : Nat) : Int) = (256 : Int) ^ (takeS b at' f n).1.length := by rw [Int.natCast_pow]; rfl
    rw [← e]
    have : (256 : Nat) ^ 4 = 4294967296 := by decide
    omega
  omega
set_option maxHeartbeats 1600000 in
set_option maxRecDepth 100000 in
theorem number_calls (w0 w : World) (k : K5) (A : Option Addr) (c : Nat) (b : List Int) (at' : Nat) (f : Option (Int × Int)) (n : Nat) (G : Int → Int) (fg : Nat) (caps : Array Value) (hD : Aside0 (Dst w0 w k A c b at' f)) (hR : Aside0 (Kd.C (Kd.int .u8) w0 A b.length b)) (hbc : Aside0 (b.length ≤ c)) (hbl : Aside0 (b.length ≤ 140737488351232)) (hn : Aside0 (1 ≤ n ∧ n ≤ 4)) (hb8 : Aside0 (∀ x ∈ b, 0 ≤ x ∧ x < 256))
    (hfg : ∀ (args : Array Value) (w1 : World), (callFunc fg args).run Try.prog w1 = .ok (.enter fg args) w1) (hG : Aside0 (∀ (x : Int) (w1 : World), 0 ≤ x → x < 4294967296 → RestK k w w1 → Calls Try.prog fg (#[.int .i64 x] ++ caps) w1 fun e w2 => e = .returned (.int .i64 (G x)) ∧ Below w1.heap.size w1 w2)) :
    Calls Try.prog 29 #[.int .i64 (n : Int), .func (.func fg) #[] caps, ptr k.g4, ptr k.g7, ptr k.g5, ptr k.g6] w fun e w' => e = .returned (.int .i64 (numberS b at' f n G).1) ∧ Dst w0 w' k A c b (numberS b at' f n G).2.1 (numberS b at' f n G).2.2 ∧ RestK k w w' := by
  have c4 : w.cell? ⟨k.g4, 0, none⟩ = some (.int .i64 (at' : Int)) := (blk_cell hD.out.b4 0).trans rfl
  have c7 : w.cell? ⟨k.g7, 0, none⟩ = some (.func (.func 28) #[] #[ptr k.g5, ptr k.g1, ptr k.g4, ptr k.g6]) := (blk_cell hD.out.b7 0).trans rfl
  obtain ⟨T, hT⟩ : ∃ T, T = takeS b at' f n := ⟨_, rfl⟩
  have HTK : Aside0 (∀ x ∈ T.1, 0 ≤ x ∧ x < 256) := ⟨by rw [hT]; exact (takeS_mem hb8.out).1⟩
  have HTL : Aside0 (T.1.length ≤ 8) := ⟨by have := (takeS_mem hb8.out (at' := at') (f := f) (n := n)).2; have := hn.out; rw [hT]; omega⟩
  have hv := takeS_val hb8.out (at' := at') (f := f) hn.out.2
  have HNS : Aside0 (numberS b at' f n G = (val T.1, T.2.1, if T.2.2 = none then (if G (val T.1) = 0 then none else some ((at' : Int), G (val T.1))) else T.2.2)) := ⟨by rw [hT]; rfl⟩
  obtain ⟨Z, hZ⟩ : ∃ Z, Z = numberS b at' f n G := ⟨_, rfl⟩
  rw [← hZ]
  have HZ := Aside0.mk (hZ.trans HNS.out)
  rw [← hT] at hv
  have HT := Aside0.mk hT
  obtain ⟨x, hx⟩ : ∃ x, x = val T.1 := ⟨_, rfl⟩
  rw [← hx] at hv
  have HX := Aside0.mk hx
  have z1 : wrap64 x = x := w64 (by omega) (by omega)
  have z2 : IntKind.i64.wrap x = x := by rw [i64_w, z1]
  have HV := Aside0.mk hv
  clear hT hZ HNS hx hv
  unfold ptr at c7 ⊢
  go_enter Try.func29, Try.ntmps29
  go_wp2_with fail
  refine (take_calls w0 w k A c b at' f n hD hR hbc hbl ⟨by have := hn.out; omega⟩ ⟨fun _ => hn.out.1⟩ ⟨hD.out.be.size⟩).mono ?_
  rintro e w1 ⟨v, rfl, hd, hr, hk⟩
  rw [← HT.out] at hd hr
  obtain ⟨A9, c9, rfl, hc9, hr9⟩ := Kd.R_reads hr
  have HD := Aside0.mk hd
  have HK := Aside0.mk hk
  have HR9 := Aside0.mk hr9
  have HC9 := Aside0.mk hc9
  clear hd hr hk hc9 hr9 c4 c7
  go_wp2_with fail
  refine (get_calls A9 c9 T.1 _ HR9.out HC9.out HTK.out HTL.out).mono ?_
  rintro e w2 ⟨he, hb⟩
  rw [← HX.out] at he
  subst he
  have HD := Aside0.mk (HD.out.below hb)
  have HK := Aside0.mk (HK.out.trans (RestK.below hb))
  clear hb
  obtain ⟨p, h5, hf⟩ := HD.out.b5
  have c5 : w2.cell? ⟨k.g5, 0, none⟩ = some (.pointer p) := (blk_cell h5 0).trans rfl
  clear h5
  cases hf2 : T.2.2 with
  | some q =>
    obtain ⟨x0, e0⟩ := q
    rw [hf2] at hf
    obtain ⟨gf, rfl, _⟩ := hf
    have HZ2 : Aside0 (Z = (x, T.2.1, T.2.2)) := ⟨by rw [HZ.out, if_neg (by rw [hf2]; simp), ← HX.out]⟩
    clear hf2
    go_wp2_with fail
    go_ret
    rw [HZ2.out]
    exact ⟨rfl, HD.out, HK.out⟩
  | none =>
    rw [hf2] at hf
    have hp : p = none := hf
    subst hp
    have HZ2 : Aside0 (Z = (x, T.2.1, if G x = 0 then none else some ((at' : Int), G x))) := ⟨by rw [HZ.out, if_pos hf2, ← HX.out]⟩
    have HF2 := Aside0.mk hf2
    clear hf hf2
    go_wp2_with fail
    refine (hG.out x _ HV.out.1 HV.out.2 HK.out).mono ?_
    rintro e w3 ⟨rfl, hb⟩
    have HD := Aside0.mk (HD.out.below hb)
    have HK := Aside0.mk (HK.out.trans (RestK.below hb))
    clear hb c5
    obtain ⟨gx, hgx⟩ : ∃ gx, gx = G x := ⟨_, rfl⟩
    rw [← hgx]
    have HG := Aside0.mk hgx
    by_cases h0 : gx = 0
    · have e1 : (gx != 0) = false := by simp [h0]
      have HZ3 : Aside0 (Z = (x, T.2.1, none)) := ⟨by rw [HZ2.out, if_pos (by rw [← hgx, h0])]⟩
      clear h0 hgx
      go_wp2_with fail
      go_ret
      rw [HZ3.out]
      refine ⟨rfl, ?_, HK.out⟩
      have h := HD.out
      rw [HF2.out] at h
      exact h
    · have e1 : (gx != 0) = true := by simp [h0]
      have HZ3 : Aside0 (Z = (x, T.2.1, some ((at' : Int), gx))) := ⟨by rw [HZ2.out, if_neg (by rw [← hgx]; exact h0), ← hgx]⟩
      have c6 : w3.cell? ⟨k.g6, 0, none⟩ = some (.func (.func 27) #[] #[ptr k.g5]) := (blk_cell HD.out.b6 0).trans rfl
      unfold ptr at c6
      clear h0 hgx
      go_wp2_with fail
      refine (fail_calls w0 w3 k A c b T.2.1 T.2.2 (at' : Int) gx HD).mono ?_
      rintro e w4 ⟨rfl, hd, hr⟩
      have HK := Aside0.mk (HK.out.trans hr)
      have HDn : Aside0 (Dst w0 w4 k A c b T.2.1 (some ((at' : Int), gx))) := ⟨by rw [HF2.out] at hd; exact hd⟩
      clear hd hr c6
      go_wp2_with fail
      go_ret
      rw [HZ3.out]
      exact ⟨rfl, HDn.out, HK.out⟩
end Go.Proofs.Ytiinflgoflkomaa.LoadD2
