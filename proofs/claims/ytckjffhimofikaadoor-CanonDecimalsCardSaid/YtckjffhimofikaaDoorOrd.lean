/- Positive floats stand to each other as their words do. -/
import Derived.Test.YtckjffhimofikaaDoorRef
import Derived.Test.YtckjffhimofikaaDoorFlt
import Derived.Laws.FloatArith
namespace Go.Proofs.YtckjffhimofikaaDoor.FF
open Ieee Go.Proofs.YtckjffhimofikaaDoorF
set_option linter.unusedVariables false
set_option linter.unusedSimpArgs false

theorem cl {a b : Nat} (h : a < b) : compare a b = .lt := by
  show compareOfLessAndEq a b = _
  unfold compareOfLessAndEq
  rw [if_pos h]
theorem cg {a b : Nat} (h : b < a) : compare a b = .gt := by
  show compareOfLessAndEq a b = _
  unfold compareOfLessAndEq
  rw [if_neg (by omega), if_neg (by omega)]
theorem cli {a b : Int} (h : a < b) : compare a b = .lt := by
  show compareOfLessAndEq a b = _
  unfold compareOfLessAndEq
  rw [if_pos h]
theorem cgi {a b : Int} (h : b < a) : compare a b = .gt := by
  show compareOfLessAndEq a b = _
  unfold compareOfLessAndEq
  rw [if_neg (by omega), if_neg (by omega)]
theorem read_pos {b : Nat} (h : b < 2047 * 2 ^ 52) : ∃ k mag : Nat, b = k * 2 ^ 52 + mag ∧ mag < 2 ^ 53 ∧ (0 < k → 2 ^ 52 ≤ mag) ∧ double.read b = .number false mag ((k : Int) - 1074) ∧ k ≤ 2045 := by
  rcases Nat.lt_or_ge b (2 ^ 52) with h1 | h1
  · refine ⟨0, b, by omega, by omega, by omega, ?_, by omega⟩
    unfold Format.read
    simp only [sign64, binade64, inf64, least64]
    have hd : b / 2 ^ 63 = 0 := by omega
    have hm : b % 2 ^ 63 = b := by omega
    simp only [hd, hm]
    rw [if_pos h1]
    rfl
  · refine ⟨b / 2 ^ 52 - 1, 2 ^ 52 + b % 2 ^ 52, by omega, by omega, by omega, ?_, by omega⟩
    have e : b = (b / 2 ^ 52 - 1) * 2 ^ 52 + (2 ^ 52 + b % 2 ^ 52) := by omega
    conv => lhs; rw [e]
    exact read_norm (by omega) (by omega) (by omega)
theorem shl_eq (m k : Nat) : signed false m k = ((m * 2 ^ k : Nat) : Int) := by
  unfold signed
  rw [if_neg (by simp), Nat.shiftLeft_eq]
theorem cmp_nat (a b : Nat) : compare ((a : Nat) : Int) ((b : Nat) : Int) = compare a b := by
  rcases Nat.lt_trichotomy a b with h | h | h
  · rw [cl h, cli (by omega)]
  · subst h; simp
  · rw [cg h, cgi (by omega)]
theorem cmp_mul (a b c : Nat) (hc : 0 < c) : compare (a * c) (b * c) = compare a b := by
  rcases Nat.lt_trichotomy a b with h | h | h
  · rw [cl h, cl (Nat.mul_lt_mul_of_pos_right h hc)]
  · subst h; simp
  · rw [cg h, cg (Nat.mul_lt_mul_of_pos_right h hc)]
theorem val_lt {k1 m1 k2 m2 : Nat} (h1 : m1 < 2 ^ 53) (h2 : 0 < k2 → 2 ^ 52 ≤ m2) (hk : k1 < k2) : m1 * 2 ^ k1 < m2 * 2 ^ k2 := by
  have e : (2 : Nat) ^ k2 = 2 ^ (k2 - k1) * 2 ^ k1 := by rw [← Nat.pow_add]; congr 1; omega
  rw [e, ← Nat.mul_assoc]
  refine Nat.mul_lt_mul_of_pos_right ?_ (Nat.two_pow_pos _)
  have h3 : (2 : Nat) ^ 1 ≤ 2 ^ (k2 - k1) := Nat.pow_le_pow_right (by omega) (by omega)
  have h4 := h2 (by omega)
  have h5 : 2 ^ 52 * 2 ^ 1 ≤ m2 * 2 ^ (k2 - k1) := Nat.mul_le_mul h4 h3
  omega
theorem order_pos {a b : Nat} (ha : a < 2047 * 2 ^ 52) (hb : b < 2047 * 2 ^ 52) : double.order a b = some (compare a b) := by
  obtain ⟨k1, m1, e1, h1, h2, r1, _⟩ := read_pos ha
  obtain ⟨k2, m2, e2, h3, h4, r2, _⟩ := read_pos hb
  unfold Format.order
  rw [r1, r2]
  unfold Datum.order
  simp only []
  rw [shl_eq, shl_eq, cmp_nat]
  congr 1
  have key : compare (m1 * 2 ^ k1) (m2 * 2 ^ k2) = compare a b := by
    rcases Nat.lt_trichotomy k1 k2 with h | h | h
    · rw [cl (val_lt h1 h4 h), cl (by have := h4 (by omega); omega)]
    · subst h
      rw [cmp_mul _ _ _ (Nat.two_pow_pos _)]
      rcases Nat.lt_trichotomy m1 m2 with h | h | h
      · rw [cl h, cl (by omega)]
      · rw [show a = b by omega, h]; simp
      · rw [cg h, cg (by omega)]
    · rw [cg (val_lt h3 h2 h), cg (by have := h2 (by omega); omega)]
  rw [← key]
  rcases Nat.le_total k1 k2 with h | h
  · have e3 : ((k1 : Int) - 1074 - min ((k1 : Int) - 1074) ((k2 : Int) - 1074)).toNat = 0 := by omega
    have e4 : ((k2 : Int) - 1074 - min ((k1 : Int) - 1074) ((k2 : Int) - 1074)).toNat = k2 - k1 := by omega
    rw [e3, e4]
    rw [← cmp_mul (m1 * 2 ^ 0) (m2 * 2 ^ (k2 - k1)) (2 ^ k1) (Nat.two_pow_pos _), Nat.mul_assoc, Nat.mul_assoc, ← Nat.pow_add, ← Nat.pow_add]
    congr 3 <;> omega
  · have e3 : ((k1 : Int) - 1074 - min ((k1 : Int) - 1074) ((k2 : Int) - 1074)).toNat = k1 - k2 := by omega
    have e4 : ((k2 : Int) - 1074 - min ((k1 : Int) - 1074) ((k2 : Int) - 1074)).toNat = 0 := by omega
    rw [e3, e4]
    rw [← cmp_mul (m1 * 2 ^ (k1 - k2)) (m2 * 2 ^ 0) (2 ^ k2) (Nat.two_pow_pos _), Nat.mul_assoc, Nat.mul_assoc, ← Nat.pow_add, ← Nat.pow_add]
    congr 3 <;> omega
theorem feq_pos {a b : Nat} (ha : a < 2047 * 2 ^ 52) (hb : b < 2047 * 2 ^ 52) : feq a b = decide (a = b) := by
  unfold feq
  show (double.order a b == some Ordering.eq) = _
  rw [order_pos ha hb]
  by_cases h : a = b
  · subst h; simp
  · rcases Nat.lt_or_gt_of_ne h with h1 | h1
    · rw [cl h1]; simp [h]
    · rw [cg h1]; simp [h]
/-- The words of the floats from 0 to 1. -/
theorem between {b : Nat} (h : b < 2 ^ 64) (h1 : flt_ge b 0 = true) (h2 : flt_le b 4607182418800017408 = true) : b ≤ 4607182418800017408 ∨ b = 2 ^ 63 := by
  rcases Nat.lt_or_ge b (2047 * 2 ^ 52) with h3 | h3
  · left
    unfold flt_le at h2
    have e : FloatKind.f64.format.order b 4607182418800017408 = some (compare b 4607182418800017408) := order_pos h3 (by decide)
    rw [e] at h2
    rcases Nat.lt_or_ge 4607182418800017408 b with h4 | h4
    · rw [cg h4] at h2; simp at h2
    · exact h4
  · by_cases h63 : b = 2 ^ 63
    · exact .inr h63
    exfalso
    rcases Nat.lt_or_ge b (2 ^ 63) with h4 | h4
    · -- infinity and what is no number
      have hd : b / 2 ^ 63 = 0 := by omega
      have hm : b % 2 ^ 63 = b := by omega
      have hr : double.read b = .infinity false ∨ ∃ f, double.read b = .nan false f := by
        unfold Format.read
        simp only [sign64, binade64, inf64, least64, hd, hm]
        rw [if_neg (by omega), if_neg (by omega)]
        by_cases hi : b = 2047 * 2 ^ 52
        · rw [if_pos hi]; exact .inl rfl
        · rw [if_neg hi]; exact .inr ⟨_, rfl⟩
      have h1r : double.read 4607182418800017408 = .number false (2 ^ 52) (-52) := by decide +kernel
      unfold flt_le at h2
      have e : FloatKind.f64.format.order b 4607182418800017408 = (double.read b).order (double.read 4607182418800017408) := rfl
      rw [e, h1r] at h2
      rcases hr with hr | ⟨f, hr⟩
      · rw [hr] at h2; exact absurd h2 (by decide)
      · rw [hr] at h2; exact absurd h2 (by simp [Datum.order])
    · -- below nought
      have hd : b / 2 ^ 63 = 1 := by omega
      have hr : double.read b = .infinity true ∨ (∃ f, double.read b = .nan true f) ∨ ∃ m p, 0 < m ∧ double.read b = .number true m p := by
        unfold Format.read
        simp only [sign64, binade64, inf64, least64, hd]
        by_cases q1 : b % 2 ^ 63 < 2 ^ 52
        · rw [if_pos q1]
          exact .inr (.inr ⟨_, _, by omega, rfl⟩)
        · rw [if_neg q1]
          by_cases q2 : b % 2 ^ 63 < 2047 * 2 ^ 52
          · rw [if_pos q2]
            exact .inr (.inr ⟨_, _, by omega, rfl⟩)
          · rw [if_neg q2]
            by_cases q3 : b % 2 ^ 63 = 2047 * 2 ^ 52
            · rw [if_pos q3]; exact .inl rfl
            · rw [if_neg q3]; exact .inr (.inl ⟨_, rfl⟩)
      have h0r : double.read 0 = .number false 0 (-1074) := by decide +kernel
      unfold flt_ge at h1
      have e : FloatKind.f64.format.order b 0 = (double.read b).order (double.read 0) := rfl
      rw [e, h0r] at h1
      rcases hr with hr | ⟨f, hr⟩ | ⟨m, p, hm, hr⟩
      · rw [hr] at h1; exact absurd h1 (by decide)
      · rw [hr] at h1; exact absurd h1 (by simp [Datum.order])
      · rw [hr] at h1
        unfold Datum.order at h1
        simp only [] at h1
        have e1 : signed true m (p - min p (-1074)).toNat < signed false 0 (-1074 - min p (-1074)).toNat := by
          unfold signed
          simp only [if_true, Bool.false_eq_true, if_false, Nat.shiftLeft_eq, Nat.zero_mul]
          have : 0 < m * 2 ^ (p - min p (-1074)).toNat := Nat.mul_pos hm (Nat.two_pow_pos _)
          omega
        rw [cli e1] at h1
        simp at h1
end Go.Proofs.YtckjffhimofikaaDoor.FF
