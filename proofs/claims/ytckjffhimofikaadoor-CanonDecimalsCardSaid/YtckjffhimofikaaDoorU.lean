/- ftoa64 of every float between 0 and 1. -/
import Derived.Test.YtckjffhimofikaaDoorSay
import Derived.Test.YtckjffhimofikaaDoorT
namespace Go.Proofs.YtckjffhimofikaaDoor.U
open Go.RowKit Go.Proofs.YtckjffhimofikaaDoorW.PrintWords Go.Proofs.YtckjffhimofikaaDoor.A Go.Proofs.YtckjffhimofikaaDoor.C Go.Proofs.YtckjffhimofikaaDoor.D Go.Proofs.YtckjffhimofikaaDoor.FF Go.Proofs.YtckjffhimofikaaDoor.J Go.Proofs.YtckjffhimofikaaDoor.P Go.Proofs.YtckjffhimofikaaDoorW.PrintLast Go.Proofs.YtckjffhimofikaaDoorW.PrintMore
set_option linter.unusedSimpArgs false
set_option linter.unusedVariables false
set_option maxRecDepth 4000

theorem sfG_lt {m mn mx od p hi lo s : Nat} (hm : m < 2 ^ 64) (h1 : mn < 2 ^ 64) (h2 : mx < 2 ^ 64) (hhi : hi < 2 ^ 64) (hs : 2 ≤ s) (hod : od ≤ 1) : (sfG m mn mx od p hi lo s).1 < 2 ^ 64 ∧ ((sfG m mn mx od p hi lo s).2 = p - 1 ∨ (sfG m mn mx od p hi lo s).2 = p) := by
  have u1 := usc_lt (lo := lo) h1 hhi hs
  have u2 := usc_lt (lo := lo) h2 hhi hs
  have u3 := usc_lt (lo := lo) hm hhi hs
  unfold sfG
  split
  · exact ⟨by simp only []; omega, .inl rfl⟩
  · split
    · exact ⟨by simp only []; omega, .inr rfl⟩
    · exact ⟨by simp only []; omega, .inr rfl⟩
/-! ### The exponents -/
def regB (t : Nat) : Bool := decide ((11 - (t : Int)) * 78913 / 262144 = -(pOf t : Int)) && decide ((pOf t : Int) * 108853 / 32768 = (l2 (pOf t)).toNat) && decide (-(-(t : Int) + (l2 (pOf t)).toNat + 3) = (sOf t : Int)) && decide (2 ≤ sOf t) && decide ((l2 (pOf t)).toNat ≤ 4000) && decide (sOf t < 64) && decide (pOf t ≤ 347) && decide (1 ≤ pOf t) && decide (t ≤ 164 ∨ 47 ≤ pOf t)
theorem reg_all : ∀ a : Fin 1022, regB (64 + a.val) = true := by decide +kernel
theorem reg (t : Nat) (h1 : 64 ≤ t) (h2 : t ≤ 1085) : (11 - (t : Int)) * 78913 / 262144 = -(pOf t : Int) ∧ (pOf t : Int) * 108853 / 32768 = (l2 (pOf t)).toNat ∧ -(-(t : Int) + (l2 (pOf t)).toNat + 3) = (sOf t : Int) ∧ 2 ≤ sOf t ∧ (l2 (pOf t)).toNat ≤ 4000 ∧ sOf t < 64 ∧ pOf t ≤ 347 ∧ 1 ≤ pOf t ∧ (t ≤ 164 ∨ 47 ≤ pOf t) := by
  have h := reg_all ⟨t - 64, by omega⟩
  have e : 64 + (t - 64) = t := by omega
  simp only [e] at h
  unfold regB at h
  simp only [Bool.and_eq_true, decide_eq_true_eq] at h
  obtain ⟨⟨⟨⟨⟨⟨⟨⟨a, b⟩, c⟩, d⟩, e⟩, f⟩, g⟩, i⟩, j⟩ := h
  exact ⟨a, b, c, d, e, f, g, i, j⟩
def skB (t : Nat) : Bool := decide (((11 - (t : Int)) * 631305 - 261663) / 2097152 = -(pS t : Int)) && decide ((pS t : Int) * 108853 / 32768 = (l2 (pS t)).toNat) && decide (-(-(t : Int) + (l2 (pS t)).toNat + 3) = (sS t : Int)) && decide (2 ≤ sS t) && decide ((l2 (pS t)).toNat ≤ 4000) && decide (sS t < 64) && decide (pS t ≤ 347) && decide (1 ≤ pS t) && decide (t ≤ 164 ∨ 47 ≤ pS t)
theorem sk_all : ∀ a : Fin 1022, skB (63 + a.val) = true := by decide +kernel
theorem sk (t : Nat) (h1 : 63 ≤ t) (h2 : t ≤ 1084) (h3 : 64 ≤ t ∨ t = 63) : ((11 - (t : Int)) * 631305 - 261663) / 2097152 = -(pS t : Int) ∧ (pS t : Int) * 108853 / 32768 = (l2 (pS t)).toNat ∧ -(-(t : Int) + (l2 (pS t)).toNat + 3) = (sS t : Int) ∧ 2 ≤ sS t ∧ (l2 (pS t)).toNat ≤ 4000 ∧ sS t < 64 ∧ pS t ≤ 347 ∧ 1 ≤ pS t ∧ (t ≤ 164 ∨ 47 ≤ pS t) := by
  have h := sk_all ⟨t - 63, by omega⟩
  have e : 63 + (t - 63) = t := by omega
  simp only [e] at h
  unfold skB at h
  simp only [Bool.and_eq_true, decide_eq_true_eq] at h
  obtain ⟨⟨⟨⟨⟨⟨⟨⟨a, b⟩, c⟩, d⟩, e⟩, f⟩, g⟩, i⟩, j⟩ := h
  exact ⟨a, b, c, d, e, f, g, i, j⟩
theorem ans_pow {t : Nat} (ht : 64 ≤ t ∧ t ≤ 164) : Ans ((1085 - t) * 2 ^ 52 + 2 ^ 52) (dq t).1 (dq t).2 ∧ 16 ≤ pS t ∧ pS t ≤ 50 := by
  have h := pow_all ⟨t - 64, by omega⟩
  have e : 64 + (t - 64) = t := by omega
  simp only [e] at h
  unfold powB at h
  simp only [Bool.and_eq_true, decide_eq_true_eq] at h
  obtain ⟨⟨⟨⟨⟨⟨⟨⟨⟨⟨⟨⟨a, b⟩, c⟩, d⟩, e1⟩, f⟩, g⟩, i⟩, j⟩, k⟩, l⟩, m⟩, n⟩ := h
  refine ⟨⟨a, b, c, dd_of a, pos_of a d b, ?_⟩, e1, f⟩
  split at n
  · next h72 =>
    left
    simp only [Bool.and_eq_true, decide_eq_true_eq] at n
    obtain ⟨⟨⟨⟨n1, n2⟩, n3⟩, n4⟩, n5⟩ := n
    have hv : Val (5 ^ (t - 63)) (t - 63) := ⟨by omega, by omega, Nat.pow_pos (by omega), n5⟩
    have hS := hit_pow ht hv n3
    have hS9 := (short_up (k := t - 63) (by omega)).1 hS
    refine ⟨_, _, hv, n4, n2, n1, n3, fun n' k' hv' hh => ?_, fun y near hy hn => near_reg ⟨Nat.le_refl _, by omega⟩ ht ⟨hv.1, hv.2.1⟩ hv.2.2.1 hS hy hn⟩
    have e2 := short_one ht.1 (by omega) ((short_up hv'.2.1).1 (hit_pow ht hv' hh)) hS9
    have hk : t - 63 ≤ k' := by
      rcases Nat.lt_or_ge k' (t - 63) with hlt | hge
      · exfalso
        have e3 : (10 : Nat) ^ (9 - k') = 10 ^ (t - 63 - k') * 10 ^ (9 - (t - 63)) := by rw [← Nat.pow_add]; congr 1; have := hv'.1; omega
        rw [e3, ← Nat.mul_assoc] at e2
        have e4 := Nat.eq_of_mul_eq_mul_right (Nat.pow_pos (by omega)) e2
        apply n4
        rw [← e4, show t - 63 - k' = t - 63 - k' - 1 + 1 by omega, Nat.pow_succ, ← Nat.mul_assoc]
        exact Nat.mul_mod_left _ _
      · exact hge
    refine ⟨hk, fun e5 => ?_⟩
    rw [e5] at e2
    exact Nat.eq_of_mul_eq_mul_right (Nat.pow_pos (by omega)) e2
  · next h72 =>
    right
    simp only [Bool.and_eq_true, decide_eq_true_eq] at n
    obtain ⟨n1, n2⟩ := n
    refine ⟨n1, fun n' k' hv' hh => ?_⟩
    have hS := (short_up hv'.2.1).1 (hit_pow ht hv' hh)
    obtain ⟨x, hx⟩ : ∃ x, x = n' * 10 ^ (9 - k') := ⟨_, rfl⟩
    rw [← hx] at hS
    unfold Short at hS
    have ht64 : (2 : Nat) ^ 64 ≤ 2 ^ t := Nat.pow_le_pow_right (by omega) ht.1
    have hx2 : (2 ^ 63 + 2 ^ 10) * 10 ^ 9 / 2 ^ t = x := by
      rw [Nat.div_eq_iff (Nat.two_pow_pos _)]
      generalize x * 2 ^ t = X at *
      generalize 2 ^ t = T at *
      omega
    rw [hx2] at n2
    have h1 : (2 ^ 63 - 2 ^ 10) * 10 ^ 9 < x * 2 ^ t := hS.1
    have h2 : x * 2 ^ t < (2 ^ 63 + 2 ^ 10) * 10 ^ 9 := hS.2
    simp only [decide_eq_true h1, decide_eq_true h2] at n2
    exact absurd n2 (by decide)
end Go.Proofs.YtckjffhimofikaaDoor.U
