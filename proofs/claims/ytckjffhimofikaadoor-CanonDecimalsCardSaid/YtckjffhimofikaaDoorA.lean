/- FormatFloat's small functions: powers, products, roundings. -/
import Derived.Test.YtckjffhimofikaaDoorProg
import Derived.Test.YtckjffhimofikaaDoorWWords
import Derived.Test.YtckjffhimofikaaDoorShelf
import Derived.WalkKit
import Derived.Below
import Derived.Deep.Draws
import Derived.Laws.MathBits
import Derived.Laws.Bits64
import Derived.Laws.BitsAll
import Derived.Carry
import Derived.Outline
namespace Go.Proofs.YtckjffhimofikaaDoor.A
open Go.RowKit Go.Proofs.YtckjffhimofikaaDoorW.PrintWords
set_option linter.unusedVariables false
set_option linter.unusedSimpArgs false

theorem wraps_u64 (n : Int) (h₀ : 0 ≤ n) (h₁ : n < 2 ^ 64) : IntKind.u64.wrap n = n := by rw [IntKind.wrap_u64]; omega
theorem wraps_i64 (n : Int) (h₀ : 0 ≤ n) (h₁ : n < 2 ^ 63) : IntKind.i64.wrap n = n := by rw [IntKind.wrap_i64]; omega
theorem u64_and1 (x : Int) (h0 : 0 ≤ x) (h1 : x < 18446744073709551616) : bits .and .u64 x 1 = x % 2 := bits_mask .u64 64 (by decide) wraps_u64 1 (by decide) x h0 h1
theorem u64_and32 (x : Int) (h0 : 0 ≤ x) (h1 : x < 18446744073709551616) : bits .and .u64 x 4294967295 = x % 4294967296 := bits_mask .u64 64 (by decide) wraps_u64 32 (by decide) x h0 h1
theorem i64_and63 (x : Int) (h0 : 0 ≤ x) (h1 : x < 9223372036854775808) : bits .and .i64 x 63 = x % 64 := bits_mask .i64 63 (by decide) wraps_i64 6 (by decide) x h0 h1
theorem i64_and1 (x : Int) (h0 : 0 ≤ x) (h1 : x < 9223372036854775808) : bits .and .i64 x 1 = x % 2 := bits_mask .i64 63 (by decide) wraps_i64 1 (by decide) x h0 h1
theorem u64_or1 (x : Int) (h0 : 0 ≤ x) (h1 : x < 18446744073709551616) : bits .or .u64 x 1 = x / 2 * 2 + 1 := by
  obtain ⟨n, rfl⟩ : ∃ n : Nat, x = n := ⟨x.toNat, by omega⟩
  have h := bits_or_u64_nat n 1 (by omega) (by omega)
  have e : n ||| 1 = n / 2 * 2 + 1 := by
    have h1 : (n ||| 1) / 2 = n / 2 := by rw [Nat.or_div_two]; simp
    have h2 : (n ||| 1) % 2 = 1 := by rw [Nat.or_mod_two_eq_one]; simp
    omega
  rw [show ((1 : Nat) : Int) = 1 from rfl] at h
  rw [h, e]
  omega
theorem u64_or0 (x : Int) (h0 : 0 ≤ x) (h1 : x < 18446744073709551616) : bits .or .u64 x 0 = x := by
  obtain ⟨n, rfl⟩ : ∃ n : Nat, x = n := ⟨x.toNat, by omega⟩
  have h := bits_or_u64_nat n 0 (by omega) (by omega)
  rw [show ((0 : Nat) : Int) = 0 from rfl] at h
  rw [h, Nat.or_zero]
theorem lg10_calls (x : Int) (w : World) (h0 : -4000 ≤ x) (h1 : x ≤ 4000) : Calls Tryd.prog 23 #[.int .i64 x] w fun e w' => e = .returned (.int .i64 (x * 78913 / 262144)) ∧ w = w' := by
  go_enter Tryd.func23, Tryd.ntmps23
  go_wp2
  go_ret
  exact ⟨rfl, rfl⟩
theorem lg2_calls (x : Int) (w : World) (h0 : -4000 ≤ x) (h1 : x ≤ 4000) : Calls Tryd.prog 34 #[.int .i64 x] w fun e w' => e = .returned (.int .i64 (x * 108853 / 32768)) ∧ w = w' := by
  go_enter Tryd.func34, Tryd.ntmps34
  go_wp2
  go_ret
  exact ⟨rfl, rfl⟩
theorem skew_calls (x : Int) (w : World) (h0 : -4000 ≤ x) (h1 : x ≤ 4000) : Calls Tryd.prog 32 #[.int .i64 x] w fun e w' => e = .returned (.int .i64 ((x * 631305 - 261663) / 2097152)) ∧ w = w' := by
  go_enter Tryd.func32, Tryd.ntmps32
  go_wp2
  go_ret
  exact ⟨rfl, rfl⟩
theorem bool64_calls (b : Bool) (w : World) : Calls Tryd.prog 53 #[.bool b] w fun e w' => e = .returned (.int .u64 (if b then 1 else 0)) ∧ w = w' := by
  cases b
  all_goals
    go_enter Tryd.func53, Tryd.ntmps53
    go_wp2
    go_ret
    exact ⟨rfl, rfl⟩
theorem boolI_calls (b : Bool) (w : World) : Calls Tryd.prog 41 #[.bool b] w fun e w' => e = .returned (.int .i64 (if b then 1 else 0)) ∧ w = w' := by
  cases b
  all_goals
    go_enter Tryd.func41, Tryd.ntmps41
    go_wp2
    go_ret
    exact ⟨rfl, rfl⟩
theorem ceil_calls (x : Int) (w : World) (h0 : 0 ≤ x) (h1 : x ≤ 18446744073709551612) : Calls Tryd.prog 37 #[.int .u64 x] w fun e w' => e = .returned (.int .u64 ((x + 3) / 4)) ∧ w = w' := by
  go_enter Tryd.func37, Tryd.ntmps37
  go_wp2
  go_ret
  exact ⟨rfl, rfl⟩
theorem floor_calls (x : Int) (w : World) (h0 : 0 ≤ x) (h1 : x ≤ 18446744073709551615) : Calls Tryd.prog 38 #[.int .u64 x] w fun e w' => e = .returned (.int .u64 (x / 4)) ∧ w = w' := by
  go_enter Tryd.func38, Tryd.ntmps38
  go_wp2
  go_ret
  exact ⟨rfl, rfl⟩
theorem round_calls (x : Int) (w : World) (h0 : 0 ≤ x) (h1 : x ≤ 18446744073709551612) : Calls Tryd.prog 39 #[.int .u64 x] w fun e w' => e = .returned (.int .u64 ((x + 1 + x / 4 % 2) / 4)) ∧ w = w' := by
  have e1 := u64_and1 (x / 4) (by omega) (by omega)
  go_enter Tryd.func39, Tryd.ntmps39
  go_wp2
  go_ret
  exact ⟨rfl, rfl⟩
theorem nudge_calls (x d : Int) (w : World) (h0 : 0 ≤ x) (h1 : x + d ≤ 18446744073709551615) (h2 : 0 ≤ x + d) (h3 : -1 ≤ d) (h4 : d ≤ 1) (h5 : x ≤ 18446744073709551615) : Calls Tryd.prog 36 #[.int .u64 x, .int .i64 d] w fun e w' => e = .returned (.int .u64 (x + d)) ∧ w = w' := by
  have e1 : IntKind.u64.wrap (x + IntKind.u64.wrap d) = x + d := by rw [IntKind.wrap_u64, IntKind.wrap_u64]; omega
  go_enter Tryd.func36, Tryd.ntmps36
  go_wp2
  go_ret
  exact ⟨rfl, rfl⟩
theorem mul_calls (x y : Int) (w : World) (h0 : 0 ≤ x) (h1 : x < 18446744073709551616) (g0 : 0 ≤ y) (g1 : y < 18446744073709551616) :
    Calls Tryd.prog 52 #[.int .u64 x, .int .u64 y] w fun e w' => e = .returned (.tuple #[.int .u64 (x * y / 18446744073709551616), .int .u64 (x * y % 18446744073709551616)]) ∧ w = w' := by
  have K := Aside0.mk (mul64_arith x y h0 h1 g0 g1)
  have a1 := u64_and32 x h0 h1
  have a2 := u64_and32 y g0 g1
  have a3 := u64_and32 ((x / 4294967296 * (y % 4294967296) + x % 4294967296 * (y % 4294967296) % 18446744073709551616 / 4294967296) % 18446744073709551616) (by omega) (by omega)
  have W := IntKind.wrap_u64
  go_enter Tryd.func52, Tryd.ntmps52
  go_wp2
  go_ret2
  refine ⟨?_, rfl⟩
  show Ending.returned (.tuple #[.int .u64 _, .int .u64 _]) = _
  congr 4
  have k := K.out
  clear a1 a2 a3 W K
  refine congrArg (Value.int .u64) ?_
  generalize x / 4294967296 * (y / 4294967296) = p11 at *
  generalize x / 4294967296 * (y % 4294967296) = p10 at *
  generalize x % 4294967296 * (y / 4294967296) = p01 at *
  generalize x % 4294967296 * (y % 4294967296) = p00 at *
  omega
theorem mulN_calls (x y : Nat) (w : World) (h1 : x < 2 ^ 64) (g1 : y < 2 ^ 64) :
    Calls Tryd.prog 52 #[.int .u64 (x : Nat), .int .u64 (y : Nat)] w fun e w' => e = .returned (.tuple #[.int .u64 ((x * y / 2 ^ 64 : Nat) : Int), .int .u64 ((x * y % 2 ^ 64 : Nat) : Int)]) ∧ w = w' :=
  (mul_calls x y w (by omega) (by omega) (by omega) (by omega)).mono fun e w' ⟨h, hw⟩ => ⟨by rw [h]; rfl, hw⟩
theorem lenN_calls (x : Nat) (w : World) (h : x < 2 ^ 64) : Calls Tryd.prog 19 #[.int .u64 (x : Nat)] w fun e w' => e = .returned (.int .i64 ((Lib.bitLen x : Nat) : Int)) ∧ w = w' :=
  (Tryd.bits_Len64 x w (by omega) (by omega)).mono fun e w' h => by
    first | exact ⟨h.1, h.2.symm⟩ | exact h
end Go.Proofs.YtckjffhimofikaaDoor.A
