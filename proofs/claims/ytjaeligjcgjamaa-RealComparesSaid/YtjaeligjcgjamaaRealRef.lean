/- Compare, the document's. -/
import Derived.Test.YtjaeligjcgjamaaRealFl
namespace Go.Proofs.Ytjaeligjcgjamaa.RealRef
open Go.RowKit Go.Proofs.Ytjaeligjcgjamaa.PRealCompares Go.Proofs.YtjaeligjcgjamaaW.PrintWords Go.Proofs.YtjaeligjcgjamaaW.PrintLast Go.Proofs.Ytjaeligjcgjamaa.Aid Go.Proofs.Ytjaeligjcgjamaa.FloatPlain Go.Proofs.Ytjaeligjcgjamaa.RealPure Go.Proofs.Ytjaeligjcgjamaa.RealCmp Go.Proofs.Ytjaeligjcgjamaa.RealFl
set_option linter.unusedVariables false
set_option linter.unusedSimpArgs false
def b1 (b : Bool) : Int := if b then 1 else 0
def refC (op : Nat) (na nb q za zb ls : Bool) : Int :=
  match na, nb with
  | true, _ => 0
  | false, true => 0
  | false, false => match op with
    | 55 => b1 (q || (za && zb))
    | 56 => b1 ls
    | _ => b1 ((q || (za && zb)) || ls)
set_option maxHeartbeats 1600000 in
theorem ref55 {a b : Nat} (HA : Aside0 (a < 18446744073709551616)) (HB : Aside0 (b < 18446744073709551616)) (w : World) (na nb q za zb ls : Bool) (hna : Aside0 (decide (9218868437227405312 < rg a) = na)) (hnb : Aside0 (decide (9218868437227405312 < rg b) = nb)) (hq : Aside0 (((a : Int) == (b : Int)) = q)) (hza : Aside0 (decide (rg a = 0) = za)) (hzb : Aside0 (decide (rg b = 0) = zb)) (hls : Aside0 (decide (key a < key b) = ls)) :
    Calls Try.prog 6 #[.int .i64 55, .int .u64 a, .int .u64 b] w fun e w' => e = .returned (.tuple #[.int .u32 (refC 55 na nb q za zb ls), .int .i64 0]) ∧ w' = w := by
  go_enter Try.func6, Try.ntmps6
  go_wp2_with fail
  refine (isnan_calls HA.out _).mono ?_
  rintro e w1 ⟨rfl, rfl⟩
  rw [hna.out]
  cases na with
  | true =>
    go_wp2_with fail
    go_ret2
    exact ⟨rfl, rfl⟩
  | false =>
    go_wp2_with fail
    refine (isnan_calls HB.out _).mono ?_
    rintro e w1 ⟨rfl, rfl⟩
    rw [hnb.out]
    cases nb with
    | true =>
      go_wp2_with fail
      go_ret2
      exact ⟨rfl, rfl⟩
    | false =>
      have hq' := hq.out
      cases q with
      | true =>
        go_wp2_with fail
        go_ret2
        exact ⟨rfl, rfl⟩
      | false =>
        go_wp2_with fail
        refine (zero_calls HA.out _).mono ?_
        rintro e w1 ⟨rfl, rfl⟩
        rw [hza.out]
        cases za with
        | true =>
          go_wp2_with fail
          refine (zero_calls HB.out _).mono ?_
          rintro e w1 ⟨rfl, rfl⟩
          rw [hzb.out]
          cases zb with
          | true =>
            go_wp2_with fail
            go_ret2
            exact ⟨rfl, rfl⟩
          | false =>
            go_wp2_with fail
            go_ret2
            exact ⟨rfl, rfl⟩
        | false =>
          go_wp2_with fail
          go_ret2
          exact ⟨rfl, rfl⟩
set_option maxHeartbeats 1600000 in
theorem ref56 {a b : Nat} (HA : Aside0 (a < 18446744073709551616)) (HB : Aside0 (b < 18446744073709551616)) (w : World) (na nb q za zb ls : Bool) (hna : Aside0 (decide (9218868437227405312 < rg a) = na)) (hnb : Aside0 (decide (9218868437227405312 < rg b) = nb)) (hq : Aside0 (((a : Int) == (b : Int)) = q)) (hza : Aside0 (decide (rg a = 0) = za)) (hzb : Aside0 (decide (rg b = 0) = zb)) (hls : Aside0 (decide (key a < key b) = ls)) :
    Calls Try.prog 6 #[.int .i64 56, .int .u64 a, .int .u64 b] w fun e w' => e = .returned (.tuple #[.int .u32 (refC 56 na nb q za zb ls), .int .i64 0]) ∧ w' = w := by
  go_enter Try.func6, Try.ntmps6
  go_wp2_with fail
  refine (isnan_calls HA.out _).mono ?_
  rintro e w1 ⟨rfl, rfl⟩
  rw [hna.out]
  cases na with
  | true =>
    go_wp2_with fail
    go_ret2
    exact ⟨rfl, rfl⟩
  | false =>
    go_wp2_with fail
    refine (isnan_calls HB.out _).mono ?_
    rintro e w1 ⟨rfl, rfl⟩
    rw [hnb.out]
    cases nb with
    | true =>
      go_wp2_with fail
      go_ret2
      exact ⟨rfl, rfl⟩
    | false =>
      have hq' := hq.out
      cases q with
      | true =>
        go_wp2_with fail
        refine (less_calls HA.out HB.out _).mono ?_
        rintro e w1 ⟨rfl, rfl⟩
        rw [hls.out]
        cases ls with
        | true =>
          go_wp2_with fail
          go_ret2
          exact ⟨rfl, rfl⟩
        | false =>
          go_wp2_with fail
          go_ret2
          exact ⟨rfl, rfl⟩
      | false =>
        go_wp2_with fail
        refine (zero_calls HA.out _).mono ?_
        rintro e w1 ⟨rfl, rfl⟩
        rw [hza.out]
        cases za with
        | true =>
          go_wp2_with fail
          refine (zero_calls HB.out _).mono ?_
          rintro e w1 ⟨rfl, rfl⟩
          rw [hzb.out]
          cases zb with
          | true =>
            go_wp2_with fail
            refine (less_calls HA.out HB.out _).mono ?_
            rintro e w1 ⟨rfl, rfl⟩
            rw [hls.out]
            cases ls with
            | true =>
              go_wp2_with fail
              go_ret2
              exact ⟨rfl, rfl⟩
            | false =>
              go_wp2_with fail
              go_ret2
              exact ⟨rfl, rfl⟩
          | false =>
            go_wp2_with fail
            refine (less_calls HA.out HB.out _).mono ?_
            rintro e w1 ⟨rfl, rfl⟩
            rw [hls.out]
            cases ls with
            | true =>
              go_wp2_with fail
              go_ret2
              exact ⟨rfl, rfl⟩
            | false =>
              go_wp2_with fail
              go_ret2
              exact ⟨rfl, rfl⟩
        | false =>
          go_wp2_with fail
          refine (less_calls HA.out HB.out _).mono ?_
          rintro e w1 ⟨rfl, rfl⟩
          rw [hls.out]
          cases ls with
          | true =>
            go_wp2_with fail
            go_ret2
            exact ⟨rfl, rfl⟩
          | false =>
            go_wp2_with fail
            go_ret2
            exact ⟨rfl, rfl⟩
set_option maxHeartbeats 1600000 in
theorem ref57 {a b : Nat} (HA : Aside0 (a < 18446744073709551616)) (HB : Aside0 (b < 18446744073709551616)) (w : World) (na nb q za zb ls : Bool) (hna : Aside0 (decide (9218868437227405312 < rg a) = na)) (hnb : Aside0 (decide (9218868437227405312 < rg b) = nb)) (hq : Aside0 (((a : Int) == (b : Int)) = q)) (hza : Aside0 (decide (rg a = 0) = za)) (hzb : Aside0 (decide (rg b = 0) = zb)) (hls : Aside0 (decide (key a < key b) = ls)) :
    Calls Try.prog 6 #[.int .i64 57, .int .u64 a, .int .u64 b] w fun e w' => e = .returned (.tuple #[.int .u32 (refC 57 na nb q za zb ls), .int .i64 0]) ∧ w' = w := by
  go_enter Try.func6, Try.ntmps6
  go_wp2_with fail
  refine (isnan_calls HA.out _).mono ?_
  rintro e w1 ⟨rfl, rfl⟩
  rw [hna.out]
  cases na with
  | true =>
    go_wp2_with fail
    go_ret2
    exact ⟨rfl, rfl⟩
  | false =>
    go_wp2_with fail
    refine (isnan_calls HB.out _).mono ?_
    rintro e w1 ⟨rfl, rfl⟩
    rw [hnb.out]
    cases nb with
    | true =>
      go_wp2_with fail
      go_ret2
      exact ⟨rfl, rfl⟩
    | false =>
      have hq' := hq.out
      cases q with
      | true =>
        go_wp2_with fail
        go_ret2
        exact ⟨rfl, rfl⟩
      | false =>
        go_wp2_with fail
        refine (zero_calls HA.out _).mono ?_
        rintro e w1 ⟨rfl, rfl⟩
        rw [hza.out]
        cases za with
        | true =>
          go_wp2_with fail
          refine (zero_calls HB.out _).mono ?_
          rintro e w1 ⟨rfl, rfl⟩
          rw [hzb.out]
          cases zb with
          | true =>
            go_wp2_with fail
            go_ret2
            exact ⟨rfl, rfl⟩
          | false =>
            go_wp2_with fail
            refine (less_calls HA.out HB.out _).mono ?_
            rintro e w1 ⟨rfl, rfl⟩
            rw [hls.out]
            cases ls with
            | true =>
              go_wp2_with fail
              go_ret2
              exact ⟨rfl, rfl⟩
            | false =>
              go_wp2_with fail
              go_ret2
              exact ⟨rfl, rfl⟩
        | false =>
          go_wp2_with fail
          refine (less_calls HA.out HB.out _).mono ?_
          rintro e w1 ⟨rfl, rfl⟩
          rw [hls.out]
          cases ls with
          | true =>
            go_wp2_with fail
            go_ret2
            exact ⟨rfl, rfl⟩
          | false =>
            go_wp2_with fail
            go_ret2
            exact ⟨rfl, rfl⟩
end Go.Proofs.Ytjaeligjcgjamaa.RealRef
