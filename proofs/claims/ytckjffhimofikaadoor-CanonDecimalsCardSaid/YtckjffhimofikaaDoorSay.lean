/- What is told of each float from 0 to 1. -/
import Derived.Test.YtckjffhimofikaaDoorAns
namespace Go.Proofs.YtckjffhimofikaaDoor.FF
open Ieee Go.Proofs.YtckjffhimofikaaDoor.C Go.Proofs.YtckjffhimofikaaDoor.J Go.Proofs.YtckjffhimofikaaDoor.D
set_option linter.unusedVariables false
set_option linter.unusedSimpArgs false
set_option maxRecDepth 4000

abbrev nzD (d : Nat) : Nat := nzR d (ndig d) (ndig d)
def Says (b n k : Nat) : Prop := Hit b n k ∧ (∀ n' k', Val n' k' → Hit b n' k' → k ≤ k' ∧ (k' = k → n' = n)) ∧ ∀ y near : Nat, double.mul b (fl (10 ^ k)) = some y → Go.floatToIntVal .f64 y .i64 = some (near : Int) → n ≤ near + 1 ∧ near ≤ n + 1
structure Ans (b d q : Nat) : Prop where
  d64 : d < 2 ^ 64
  fit : ndig d ≤ q
  q4 : q ≤ 400
  dd : d < 10 ^ ndig d
  pos : 0 < nzD d + (q - ndig d)
  say : (∃ n k, Val n k ∧ n % 10 ≠ 0 ∧ k ≤ q ∧ d = n * 10 ^ (q - k) ∧ Says b n k) ∨ (9 < nzD d + (q - ndig d) ∧ ∀ n k, Val n k → ¬ Hit b n k)
theorem dd_of {d : Nat} (h : d < 2 ^ 64) : d < 10 ^ ndig d := by
  rcases Nat.eq_zero_or_pos d with h0 | h0
  · subst h0; decide
  · exact (ndig_in h0 h).2.2
theorem pos_of {d q : Nat} (h : d < 2 ^ 64) (hq : 1 ≤ q) (hf : ndig d ≤ q) : 0 < nzD d + (q - ndig d) := by
  rcases Nat.eq_zero_or_pos (nzD d + (q - ndig d)) with h0 | h0
  · exfalso
    have h1 := nz_zeros d (ndig d) (ndig d) (Nat.le_refl _) (by rw [Nat.sub_self, Nat.pow_zero]; exact Nat.one_dvd _)
    have h2 : nzR d (ndig d) (ndig d) = 0 := by show nzD d = 0; omega
    rw [h2, Nat.sub_zero] at h1
    have h3 := Nat.eq_zero_of_dvd_of_lt h1 (dd_of h)
    have h4 : ndig d = 0 := by rw [h3]; decide
    omega
  · exact h0
theorem fit_of {d q : Nat} (h : d < 2 ^ 64) (hq : d < 10 ^ q) : ndig d ≤ q := by
  rcases Nat.eq_zero_or_pos d with h0 | h0
  · subst h0
    have : ndig 0 = 0 := by decide
    omega
  · have := (Nat.pow_lt_pow_iff_right (a := 10) (by omega)).1 (Nat.lt_of_le_of_lt (ndig_in h0 h).2.1 hq)
    omega
theorem strip10 : ∀ r n : Nat, 1 ≤ r → 0 < n → n < 10 ^ r → ∃ n' k, 1 ≤ k ∧ k ≤ r ∧ n' % 10 ≠ 0 ∧ n = n' * 10 ^ (r - k) ∧ 0 < n' ∧ n' < 10 ^ k
  | 0, _, h, _, _ => absurd h (by omega)
  | r + 1, n, _, h0, h => by
    by_cases hn : n % 10 = 0
    · have hr : 1 ≤ r := by
        rcases Nat.eq_zero_or_pos r with e | e
        · subst e; simp at h; omega
        · exact e
      obtain ⟨n', k, a, b, c, d, e, f⟩ := strip10 r (n / 10) hr (by omega) (by rw [Nat.pow_succ] at h; omega)
      refine ⟨n', k, a, by omega, c, ?_, e, f⟩
      rw [show r + 1 - k = r - k + 1 by omega, Nat.pow_succ, ← Nat.mul_assoc, ← d]
      omega
    · exact ⟨n, r + 1, by omega, Nat.le_refl _, hn, by simp, h0, h⟩
/-- Who has one short decimal has it told. -/
theorem says_of {M t n9 : Nat} (hM : 2 ^ 52 ≤ M ∧ M < 2 ^ 53) (ht : 64 ≤ t ∧ t ≤ 164) (hS : Short (M * 2 ^ 11) t n9 9) (hfwd : ∀ n k, Val n k → Hit ((1085 - t) * 2 ^ 52 + M) n k → Short (M * 2 ^ 11) t n k)
    (hback : ∀ n k, Val n k → Short (M * 2 ^ 11) t n k → Hit ((1085 - t) * 2 ^ 52 + M) n k) :
    ∃ n k, Val n k ∧ n % 10 ≠ 0 ∧ n9 = n * 10 ^ (9 - k) ∧ Says ((1085 - t) * 2 ^ 52 + M) n k := by
  have ht64 : (2 : Nat) ^ 64 ≤ 2 ^ t := Nat.pow_le_pow_right (by omega) ht.1
  have hpos : 0 < n9 := by
    rcases Nat.eq_zero_or_pos n9 with h0 | h0
    · unfold Short at hS; rw [h0, Nat.zero_mul] at hS; omega
    · exact h0
  have hlt : n9 < 10 ^ 9 := by
    rcases Nat.lt_or_ge n9 (10 ^ 9) with h0 | h0
    · exact h0
    · exfalso
      have h1 : 10 ^ 9 * 2 ^ t ≤ n9 * 2 ^ t := Nat.mul_le_mul_right _ h0
      have h2 := hS.2
      generalize 2 ^ t = T at *
      generalize n9 * T = X at *
      omega
  obtain ⟨n, k, h1, h2, h3, h4, h5, h6⟩ := strip10 9 n9 (by omega) hpos hlt
  have hv : Val n k := ⟨h1, h2, h5, h6⟩
  have hSk : Short (M * 2 ^ 11) t n k := (short_up h2).2 (by rw [← h4]; exact hS)
  refine ⟨n, k, hv, h3, h4, hback n k hv hSk, fun n' k' hv' hh => ?_, fun y near hy hn => near_reg hM ht ⟨h1, h2⟩ h5 hSk hy hn⟩
  have e := short_one ht.1 (by omega) ((short_up hv'.2.1).1 (hfwd n' k' hv' hh)) hS
  rw [h4] at e
  have hk : k ≤ k' := by
    rcases Nat.lt_or_ge k' k with hlt | hge
    · exfalso
      have e2 : (10 : Nat) ^ (9 - k') = 10 ^ (k - k') * 10 ^ (9 - k) := by rw [← Nat.pow_add]; congr 1; omega
      rw [e2, ← Nat.mul_assoc] at e
      have e3 := Nat.eq_of_mul_eq_mul_right (Nat.pow_pos (by omega)) e
      apply h3
      rw [← e3, show k - k' = k - k' - 1 + 1 by omega, Nat.pow_succ, ← Nat.mul_assoc]
      exact Nat.mul_mod_left _ _
    · exact hge
  refine ⟨hk, fun e2 => ?_⟩
  rw [e2] at e
  exact Nat.eq_of_mul_eq_mul_right (Nat.pow_pos (by omega)) e
section
variable {t p s J hi lo : Nat}
theorem told_lt (G : Good t p s J hi lo) (ht : 64 ≤ t) {M : Nat} (hM : 2 ^ 52 ≤ M ∧ M < 2 ^ 53) {d q : Nat} (h : shortF (M * 2 ^ 11) p hi lo s = (d, q)) : d < 10 ^ q ∧ (q = p - 1 ∨ q = p) := by
  obtain ⟨_, h2, hq⟩ := told G (by omega) (by omega) h
  refine ⟨?_, hq⟩
  have hp1 := G.p1
  have hpt := G.pt
  have hsep := G.sep
  rcases Nat.lt_or_ge d (10 ^ q) with h3 | h3
  · exact h3
  · exfalso
    have e1 : 10 ^ q * 10 ^ (p - q) = 10 ^ p := by rw [← Nat.pow_add]; congr 1; omega
    have h4 : 10 ^ p ≤ d * 10 ^ (p - q) := by rw [← e1]; exact Nat.mul_le_mul_right _ h3
    have e2 : 10 ^ p * 2 ^ (130 + s) = 2 ^ t * (5 ^ p * J) := by
      rw [G.g, show (10 : Nat) = 5 * 2 from rfl, Nat.mul_pow, show (2 : Nat) ^ t = 2 ^ p * 2 ^ (t - p) by rw [← Nat.pow_add]; congr 1; omega]
      simp only [Nat.mul_comm, Nat.mul_left_comm, Nat.mul_assoc]
    have h5 : 2 ^ t * (5 ^ p * J) ≤ (M * 2 ^ 11 + 2 ^ 10) * (5 ^ p * J) + 2 ^ 64 := by
      rw [← e2]
      exact Nat.le_trans (Nat.mul_le_mul_right _ h4) h2
    have h6 : (2 : Nat) ^ 64 ≤ 2 ^ t := Nat.pow_le_pow_right (by omega) ht
    have h7 : (M * 2 ^ 11 + 2 ^ 10 + 1) * (5 ^ p * J) ≤ 2 ^ t * (5 ^ p * J) := Nat.mul_le_mul_right _ (by omega)
    rw [Nat.add_mul, Nat.one_mul] at h7
    have h8 : 5 ^ (p - 9) * J ≤ 5 ^ p * J := Nat.mul_le_mul_right _ (Nat.pow_le_pow_right (by omega) (by omega))
    omega
theorem ans_reg (G : Good t p s J hi lo) (ht : 64 ≤ t ∧ t ≤ 164) {M : Nat} (hM : 2 ^ 52 < M ∧ M < 2 ^ 53) {d q : Nat} (h : shortF (M * 2 ^ 11) p hi lo s = (d, q)) (hd : d < 2 ^ 64) : Ans ((1085 - t) * 2 ^ 52 + M) d q := by
  obtain ⟨h1, hq⟩ := told_lt G ht.1 ⟨by omega, hM.2⟩ h
  have hp1 := G.p1
  have hp2 := G.p2
  have hf := fit_of hd h1
  refine ⟨hd, hf, by omega, dd_of hd, pos_of hd (by omega) hf, ?_⟩
  have hfwd : ∀ n k, Val n k → Hit ((1085 - t) * 2 ^ 52 + M) n k → Short (M * 2 ^ 11) t n k := fun n k hv hh => (hit hM ht hv.2.2.1 hv.2.2.2 ⟨hv.1, hv.2.1⟩).1 hh
  by_cases hS : ∃ n, Short (M * 2 ^ 11) t n 9
  · left
    obtain ⟨n9, hS⟩ := hS
    obtain ⟨n, k, hv, h3, h4, h5⟩ := says_of ⟨by omega, hM.2⟩ ht hS hfwd (fun n k hv hh => (hit hM ht hv.2.2.1 hv.2.2.2 ⟨hv.1, hv.2.1⟩).2 hh)
    have ht2 := tell G (by omega) (by omega) hS
    rw [h] at ht2
    injection ht2 with hd2 hq2
    have hk9 := hv.2.1
    refine ⟨n, k, hv, h3, by omega, ?_, h5⟩
    rw [hd2, h4, Nat.mul_assoc, ← Nat.pow_add]
    congr 2
    omega
  · right
    refine ⟨?_, fun n k hv hh => hS ⟨_, (short_up hv.2.1).1 (hfwd n k hv hh)⟩⟩
    rcases Nat.lt_or_ge 9 (nzD d + (q - ndig d)) with h2 | h2
    · exact h2
    · exfalso
      apply hS
      obtain ⟨c, hc⟩ := nz_zeros d (ndig d) (ndig d) (Nat.le_refl _) (by rw [Nat.sub_self, Nat.pow_zero]; exact Nat.one_dvd _)
      have hnl := nz_le d (ndig d) (ndig d)
      refine ⟨c * 10 ^ (9 - (nzD d + (q - ndig d))), tell_back G ht.1 ⟨by omega, hM.2⟩ h ?_⟩
      conv => lhs; rw [hc]
      rw [Nat.mul_comm (10 ^ _) c, Nat.mul_assoc, Nat.mul_assoc, ← Nat.pow_add, ← Nat.pow_add]
      congr 2
      show ndig d - nzD d + (p - q) = _
      have : nzD d ≤ ndig d := hnl
      omega
end
/-- Less than 2^-100: nothing short. -/
theorem ans_tiny {b d q : Nat} (hb : b ≤ 922 * 2 ^ 52) (hd : d < 2 ^ 64) (h1 : 46 ≤ q) (h2 : q ≤ 400) : Ans b d q := by
  have hn := ndig_le hd
  refine ⟨hd, by omega, h2, dd_of hd, by omega, .inr ⟨by omega, fun n k hv hh => ?_⟩⟩
  have := (hit_tiny hv.2.2.1 hv.2.2.2 ⟨hv.1, hv.2.1⟩ hh).1
  omega
/-! ### The powers of two -/
def pS (t : Nat) : Nat := (-(((11 - (t : Int)) * 631305 - 261663) / 2097152)).toNat
def sS (t : Nat) : Nat := ((t : Int) - l2 (pS t) - 3).toNat
def dq (t : Nat) : Nat × Nat := sfG (2 ^ 63) (2 ^ 63 - 512) (2 ^ 63 + 1024) 0 (pS t) (hiOf (pS t)) (loOf (pS t)) (sS t)
def powB (t : Nat) : Bool :=
  decide ((dq t).1 < 2 ^ 64) && decide (ndig (dq t).1 ≤ (dq t).2) && decide ((dq t).2 ≤ 400) && decide (1 ≤ (dq t).2) && decide (16 ≤ pS t) && decide (pS t ≤ 50) &&
  decide (-(-(t : Int) + l2 (pS t) + 3) = (sS t : Int)) && decide (2 ≤ sS t) && decide (sS t < 64) && decide (hiOf (pS t) < 2 ^ 64) && decide (loOf (pS t) < 2 ^ 64) && decide (((11 - (t : Int)) * 631305 - 261663) / 2097152 = -(pS t : Int)) &&
  (if t ≤ 72 then decide ((dq t).1 = 5 ^ (t - 63) * 10 ^ ((dq t).2 - (t - 63))) && decide (t - 63 ≤ (dq t).2) && decide (double.div (fl (5 ^ (t - 63))) (fl (10 ^ (t - 63))) = some ((1085 - t) * 2 ^ 52 + 2 ^ 52)) && decide (5 ^ (t - 63) % 10 ≠ 0) && decide (5 ^ (t - 63) < 10 ^ (t - 63))
   else decide (9 < nzD (dq t).1 + ((dq t).2 - ndig (dq t).1)) && !(decide ((2 ^ 63 - 2 ^ 10) * 10 ^ 9 < (2 ^ 63 + 2 ^ 10) * 10 ^ 9 / 2 ^ t * 2 ^ t) && decide ((2 ^ 63 + 2 ^ 10) * 10 ^ 9 / 2 ^ t * 2 ^ t < (2 ^ 63 + 2 ^ 10) * 10 ^ 9)))
theorem pow_all : ∀ a : Fin 101, powB (64 + a.val) = true := by decide +kernel
end Go.Proofs.YtckjffhimofikaaDoor.FF
