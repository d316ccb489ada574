/- FormatFloat: the tables; a number scaled by a power of ten. -/
import Derived.Test.YtckjffhimofikaaDoorA
import Derived.Test.YtckjffhimofikaaDoorNum
import Derived.Test.YtckjffhimofikaaDoorWFoot
import Derived.Maps.Keyed
import Derived.Maps.Own
import Derived.OwnWalk
import Derived.Laws.Rows
import Derived.RegionTactic
import Derived.Deep.RegionWith
import Derived.Deep.QuietTactic
import Derived.BigQuiet
namespace Go.Proofs.YtckjffhimofikaaDoor.B
open Go.RowKit Go.Proofs.YtckjffhimofikaaDoorW.PrintWords Go.Proofs.YtckjffhimofikaaDoor.A Go.Proofs.YtckjffhimofikaaDoor.FF
set_option linter.unusedSimpArgs false
set_option linter.unusedVariables false

set_option maxRecDepth 100000 in
set_option maxHeartbeats 400000 in
theorem uscale_calls (x hi lo s g : Nat) (w : World) (hx : x < 2 ^ 64) (hhi : hi < 2 ^ 64) (hhi0 : 0 < hi) (hlo : lo < 2 ^ 64) (hs : s < 64)
    (c0 : w.cell? ⟨g, 0, none⟩ = some (.int .u64 (hi : Nat))) (c1 : w.cell? ⟨g, 1, none⟩ = some (.int .u64 (lo : Nat))) (c2 : w.cell? ⟨g, 2, none⟩ = some (.int .i64 (s : Nat))) :
    Calls Tryd.prog 35 #[.int .u64 (x : Nat), .pointer (some ⟨g, 0, none⟩)] w fun e w' => e = .returned (.int .u64 (usc x hi lo s : Nat)) ∧ ∃ n, w' = w.drewN n := by
  have a63 := i64_and63 (s : Int) (by omega) (by omega)
  have m63 : (s : Int) % 64 = s := by omega
  have hq1 : x * lo ≤ (2 ^ 64 - 1) * (2 ^ 64 - 1) := Nat.mul_le_mul (by omega) (by omega)
  have hq2 : x * hi ≤ (2 ^ 64 - 1) * (2 ^ 64 - 1) := Nat.mul_le_mul (by omega) (by omega)
  have M1 := Aside0.mk (mulN_calls x hi w hx hhi)
  have M2 := Aside0.mk (mulN_calls x lo w hx hlo)
  have hp : x * lo ≤ x * hi * 2 ^ 64 := by
    rw [Nat.mul_assoc]
    exact Nat.mul_le_mul_left x (by omega)
  have hp2 : x * hi / 2 ^ 64 = 0 → x * lo / 2 ^ 64 ≤ x * hi % 2 ^ 64 := by omega
  clear hp
  unfold usc
  obtain ⟨h, hh⟩ : ∃ h, h = x * hi / 2 ^ 64 := ⟨_, rfl⟩
  obtain ⟨mid, hmid⟩ : ∃ mid, mid = x * hi % 2 ^ 64 := ⟨_, rfl⟩
  obtain ⟨m2, hm2⟩ : ∃ m2, m2 = x * lo / 2 ^ 64 := ⟨_, rfl⟩
  rw [← hh, ← hmid] at M1
  rw [← hm2] at M2
  rw [← hh, ← hmid, ← hm2] at hp2 ⊢
  have bh : h < 2 ^ 64 := by omega
  have bmid : mid < 2 ^ 64 := by omega
  have bm2 : m2 ≤ 2 ^ 64 - 2 := by omega
  clear hh hmid hm2 hq1 hq2
  have e2 : ((2 ^ s : Nat) : Int) = (2 : Int) ^ s := by simp
  have hdm := Nat.div_add_mod h (2 ^ s)
  have hdl : h / 2 ^ s ≤ h := Nat.div_le_self ..
  have ediv : (h : Int) / 2 ^ s = ((h / 2 ^ s : Nat) : Int) := by rw [← e2]; rfl
  rw [Nat.mul_comm] at hdm
  obtain ⟨q, hq⟩ : ∃ q, q = h / 2 ^ s := ⟨_, rfl⟩
  obtain ⟨r, hr⟩ : ∃ r, r = h % 2 ^ s := ⟨_, rfl⟩
  rw [← hq] at hdm hdl ediv
  rw [← hr] at hdm
  rw [← hq, ← hr]
  have eqq : ((q * 2 ^ s : Nat) : Int) = (q : Int) * 2 ^ s := by rw [← e2, Int.natCast_mul]
  have ew : IntKind.u64.wrap ((q : Int) * 2 ^ s) = (q : Int) * 2 ^ s := by
    rw [← eqq, IntKind.wrap_u64]
    generalize q * 2 ^ s = qq at *
    omega
  have o1 := u64_or1 (q : Int) (by omega) (by omega)
  rw [show (q : Int) / 2 * 2 + 1 = ((q / 2 * 2 + 1 : Nat) : Int) by omega] at o1
  by_cases hne : r ≠ 0
  · rw [if_pos hne]
    have t1 : ((q : Int) * 2 ^ s != (h : Int)) = true := by rw [← eqq]; simp only [bne_iff_ne, ne_eq]; generalize q * 2 ^ s = qq at *; omega
    clear hdm hdl e2 hne bh bmid bm2 hq hr eqq hp2
    go_enter Tryd.func35, Tryd.ntmps35
    go_wp2_with (go_at_call 52; (with_reducible refine M1.out.mono ?_); rintro e w' ⟨rfl, rfl⟩)
    go_ret
    exact ⟨rfl, 0, rfl⟩
  · rw [if_neg hne]
    have t1 : ((q : Int) * 2 ^ s != (h : Int)) = false := by rw [← eqq, bne_eq_false_iff_eq]; generalize q * 2 ^ s = qq at *; omega
    have hr0 : r = 0 := by omega
    have h2 : h = q * 2 ^ s := by omega
    by_cases hlt : mid < m2
    · rw [if_pos hlt]
      have b1 : decide ((mid : Int) < m2) = true := decide_eq_true (by omega)
      have hpos : 0 < h := by
        rcases Nat.eq_zero_or_pos h with h0 | h0
        · have := hp2 h0; omega
        · exact h0
      obtain ⟨q1, hq1⟩ : ∃ q1, q1 = (h - 1) / 2 ^ s := ⟨_, rfl⟩
      have hq1l : q1 ≤ h - 1 := by rw [hq1]; exact Nat.div_le_self ..
      rw [← hq1]
      have s1 : IntKind.u64.wrap ((h : Int) - 1) = ((h - 1 : Nat) : Int) := by rw [IntKind.wrap_u64]; omega
      have ediv1 : ((h - 1 : Nat) : Int) / 2 ^ s = (q1 : Int) := by rw [← e2, hq1]; rfl
      have s2 : IntKind.u64.wrap ((mid : Int) - m2) = (mid : Int) - m2 + 18446744073709551616 := by rw [IntKind.wrap_u64]; omega
      have b2 : decide (1 < (mid : Int) - m2 + 18446744073709551616) = true := decide_eq_true (by omega)
      have o3 := u64_or1 (q1 : Int) (by omega) (by omega)
      rw [show (q1 : Int) / 2 * 2 + 1 = ((q1 / 2 * 2 + 1 : Nat) : Int) by omega] at o3
      clear hdm hdl e2 hne bh bmid bm2 hq hr eqq hq1 hr0 h2 hp2
      go_enter Tryd.func35, Tryd.ntmps35
      go_upto_region 7 with (first
        | (go_at_call 52; first | ((with_reducible refine M1.out.mono ?_); rintro e w' ⟨rfl, rfl⟩) | ((with_reducible refine M2.out.mono ?_); rintro e w' ⟨rfl, rfl⟩))
        | (go_at_call 53; refine (bool64_calls _ _).mono ?_; rintro e w' ⟨rfl, rfl⟩))
      go_quiet ((go_at_call 53; exact Calls.quiet_of_same ((bool64_calls _ _).mono fun e w' h => ⟨h.1, h.2.symm⟩)))
      go_wp2
      go_ret
      exact ⟨rfl, nq, rfl⟩
    · rw [if_neg hlt]
      have b1 : decide ((mid : Int) < m2) = false := decide_eq_false (by omega)
      have s2 : IntKind.u64.wrap ((mid : Int) - m2) = (mid : Int) - m2 := by rw [IntKind.wrap_u64]; omega
      by_cases hgt : m2 + 1 < mid
      · rw [if_pos hgt]
        have b2 : decide (1 < (mid : Int) - m2) = true := decide_eq_true (by omega)
        clear hdm hdl e2 hne bmid bm2 hq hr eqq hr0 h2 hp2
        go_enter Tryd.func35, Tryd.ntmps35
        go_upto_region 7 with (first
          | (go_at_call 52; first | ((with_reducible refine M1.out.mono ?_); rintro e w' ⟨rfl, rfl⟩) | ((with_reducible refine M2.out.mono ?_); rintro e w' ⟨rfl, rfl⟩))
          | (go_at_call 53; refine (bool64_calls _ _).mono ?_; rintro e w' ⟨rfl, rfl⟩))
        go_quiet ((go_at_call 53; exact Calls.quiet_of_same ((bool64_calls _ _).mono fun e w' h => ⟨h.1, h.2.symm⟩)))
        go_wp2
        go_ret
        exact ⟨rfl, nq, rfl⟩
      · rw [if_neg hgt]
        have b2 : decide (1 < (mid : Int) - m2) = false := decide_eq_false (by omega)
        have o4 := u64_or0 (q : Int) (by omega) (by omega)
        clear hdm hdl e2 hne bmid bm2 hq hr eqq hr0 h2 hp2
        go_enter Tryd.func35, Tryd.ntmps35
        go_upto_region 7 with (first
          | (go_at_call 52; first | ((with_reducible refine M1.out.mono ?_); rintro e w' ⟨rfl, rfl⟩) | ((with_reducible refine M2.out.mono ?_); rintro e w' ⟨rfl, rfl⟩))
          | (go_at_call 53; refine (bool64_calls _ _).mono ?_; rintro e w' ⟨rfl, rfl⟩))
        go_quiet ((go_at_call 53; exact Calls.quiet_of_same ((bool64_calls _ _).mono fun e w' h => ⟨h.1, h.2.symm⟩)))
        go_wp2
        go_ret
        exact ⟨rfl, nq, rfl⟩
end Go.Proofs.YtckjffhimofikaaDoor.B
