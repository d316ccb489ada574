/- Decimals rounded to floats, by the model's own division: which float n / 10^k is. -/
import Ieee.Arith
import Derived.Test.YtckjffhimofikaaDoorNum
namespace Go.Proofs.YtckjffhimofikaaDoor.FF
set_option linter.unusedVariables false
set_option linter.unusedSimpArgs false
open Ieee

theorem least64 : double.leastPlace = -1074 := by decide
theorem binade64 : double.binade = 2 ^ 52 := rfl
theorem inf64 : double.infRung = 2047 * 2 ^ 52 := rfl
theorem sign64 : double.signWeight = 2 ^ 63 := rfl
theorem log2_of {n k : Nat} (h1 : 2 ^ k ≤ n) (h2 : n < 2 ^ (k + 1)) : n.log2 = k :=
  (Nat.log2_eq_iff (by have := Nat.two_pow_pos k; omega)).2 ⟨h1, h2⟩
theorem log2_in {n k : Nat} (hn : n ≠ 0) (h : n.log2 = k) : 2 ^ k ≤ n ∧ n < 2 ^ (k + 1) := (Nat.log2_eq_iff hn).1 h

/-- Up or down, to the nearest, of two the even one. -/
def upE (n dr : Nat) : Nat := if 2 ^ dr < 2 * (n % 2 ^ dr) ∨ (2 ^ dr = 2 * (n % 2 ^ dr) ∧ n / 2 ^ dr % 2 = 1) then 1 else 0
theorem cut_any (n dr : Nat) (h : dr ≤ n.log2 + 2) : Toward.even.cut false n dr = n / 2 ^ dr + upE n dr := by
  unfold Toward.cut upE
  have e : 1 <<< min dr (n.log2 + 2) = 2 ^ dr := by rw [Nat.min_eq_left h, Nat.one_shiftLeft]
  simp only [e]
  congr 1
  by_cases h1 : 2 ^ dr < 2 * (n % 2 ^ dr) ∨ (2 ^ dr = 2 * (n % 2 ^ dr) ∧ n / 2 ^ dr % 2 = 1)
  · rw [if_pos h1]
    have : (decide (2 ^ dr < 2 * (n % 2 ^ dr)) || (2 ^ dr == 2 * (n % 2 ^ dr) && n / 2 ^ dr % 2 == 1)) = true := by simpa using h1
    rw [this]; rfl
  · rw [if_neg h1]
    have : (decide (2 ^ dr < 2 * (n % 2 ^ dr)) || (2 ^ dr == 2 * (n % 2 ^ dr) && n / 2 ^ dr % 2 == 1)) = false := by
      rw [Bool.eq_false_iff]; simpa using h1
    rw [this]; rfl
theorem upE_le (n dr : Nat) : upE n dr ≤ 1 := by unfold upE; split <;> omega
theorem upE_zero (n : Nat) : upE n 0 = 0 := by
  unfold upE
  rw [Nat.pow_zero, Nat.mod_one, if_neg (by omega)]
theorem kept_in {mag dr : Nat} (h : mag.log2 = 52 + dr) : 2 ^ 52 ≤ mag / 2 ^ dr + upE mag dr ∧ mag / 2 ^ dr + upE mag dr ≤ 2 ^ 53 := by
  have hm : mag ≠ 0 := fun e => by rw [e] at h; simp at h; omega
  obtain ⟨h1, h2⟩ := log2_in hm h
  have hp : 0 < 2 ^ dr := Nat.two_pow_pos _
  have h3 : 2 ^ 52 ≤ mag / 2 ^ dr := by rw [Nat.le_div_iff_mul_le hp, ← Nat.pow_add]; exact h1
  have h4 : mag / 2 ^ dr < 2 ^ 53 := by rw [Nat.div_lt_iff_lt_mul hp, ← Nat.pow_add]; rw [show 53 + dr = 52 + dr + 1 by omega]; exact h2
  have := upE_le mag dr
  omega
theorem nearest_def {mag : Nat} {place : Int} (hm : mag ≠ 0) : double.nearest false mag place =
    min ((max (place + (mag.log2 : Int) - (52 : Nat)) (-1074) + 1074).toNat * 2 ^ 52 + Toward.even.cut false (mag <<< (place - max (place + (mag.log2 : Int) - (52 : Nat)) (-1074)).toNat) (max (place + (mag.log2 : Int) - (52 : Nat)) (-1074) - place).toNat) (2047 * 2 ^ 52) := by
  unfold Format.nearest Format.word
  rw [if_neg hm]
  simp only [least64, binade64, inf64, show double.fractionBits = 52 from rfl, Bool.false_eq_true, if_false, Int.sub_neg]
/-- A number of the common kind, rounded. -/
theorem nearest_norm {mag dr : Nat} {place : Int} (h : mag.log2 = 52 + dr) (h0 : -1074 ≤ place + dr) (h1 : place + dr ≤ 900) :
    double.nearest false mag place = (place + dr + 1074).toNat * 2 ^ 52 + (mag / 2 ^ dr + upE mag dr) := by
  have hm : mag ≠ 0 := fun e => by rw [e] at h; simp at h; omega
  have hk := kept_in h
  have hlast : max (place + (mag.log2 : Int) - (52 : Nat)) (-1074) = place + dr := by rw [h]; omega
  rw [nearest_def hm, hlast, show (place - (place + (dr : Int))).toNat = 0 by omega, Nat.shiftLeft_zero, show (place + (dr : Int) - place).toNat = dr by omega, cut_any _ _ (by omega)]
  exact Nat.min_eq_left (by omega)
/-- .. that is a whole number of few digits. -/
def fl (n : Nat) : Nat := (n.log2 + 1022) * 2 ^ 52 + n * 2 ^ (52 - n.log2)
theorem fl_mag {n : Nat} (hn : 0 < n) (h : n < 2 ^ 53) : 2 ^ 52 ≤ n * 2 ^ (52 - n.log2) ∧ n * 2 ^ (52 - n.log2) < 2 ^ 53 ∧ n.log2 ≤ 52 := by
  obtain ⟨h1, h2⟩ := log2_in (Nat.pos_iff_ne_zero.1 hn) rfl
  have h3 : n.log2 ≤ 52 := by
    have := (Nat.log2_lt (Nat.pos_iff_ne_zero.1 hn)).2 h
    omega
  have hp : 0 < 2 ^ (52 - n.log2) := Nat.two_pow_pos _
  refine ⟨?_, ?_, h3⟩
  · have := Nat.mul_le_mul_right (2 ^ (52 - n.log2)) h1
    rw [← Nat.pow_add, show n.log2 + (52 - n.log2) = 52 by omega] at this
    exact this
  · have := Nat.mul_lt_mul_of_pos_right h2 hp
    rw [← Nat.pow_add, show n.log2 + 1 + (52 - n.log2) = 53 by omega] at this
    exact this
theorem nearest_nat {n : Nat} (hn : 0 < n) (h : n < 2 ^ 53) : double.nearest false n 0 = fl n := by
  obtain ⟨h1, h2, h3⟩ := fl_mag hn h
  have hlast : max ((0 : Int) + (n.log2 : Int) - (52 : Nat)) (-1074) = n.log2 - 52 := by omega
  rw [nearest_def (by omega), hlast, show ((0 : Int) - ((n.log2 : Int) - 52)).toNat = 52 - n.log2 by omega, show ((n.log2 : Int) - 52 - 0).toNat = 0 by omega, cut_any _ _ (by omega), upE_zero, Nat.pow_zero, Nat.div_one, Nat.shiftLeft_eq, show ((n.log2 : Int) - 52 + 1074).toNat = n.log2 + 1022 by omega]
  exact Nat.min_eq_left (by omega)
theorem read_norm {E kept : Nat} (h1 : 2 ^ 52 ≤ kept) (h2 : kept < 2 ^ 53) (hE : E ≤ 2045) : double.read (E * 2 ^ 52 + kept) = .number false kept ((E : Int) - 1074) := by
  unfold Format.read
  simp only [sign64, binade64, inf64, least64]
  have hd : (E * 2 ^ 52 + kept) / 2 ^ 63 = 0 := by omega
  have hm : (E * 2 ^ 52 + kept) % 2 ^ 63 = E * 2 ^ 52 + kept := by omega
  simp only [hd, hm]
  rw [if_neg (by omega), if_pos (by omega)]
  have hq : (E * 2 ^ 52 + kept) / 2 ^ 52 = E + 1 := by omega
  have hr : (E * 2 ^ 52 + kept) % 2 ^ 52 = kept - 2 ^ 52 := by omega
  rw [hq, hr]
  have : 2 ^ 52 + (kept - 2 ^ 52) = kept := by omega
  rw [this]
  simp
  omega
theorem read_fl {n : Nat} (hn : 0 < n) (h : n < 2 ^ 53) : double.read (fl n) = .number false (n * 2 ^ (52 - n.log2)) ((n.log2 : Int) - 52) := by
  obtain ⟨h1, h2, h3⟩ := fl_mag hn h
  unfold fl
  rw [read_norm h1 h2 (by omega), show (((n.log2 + 1022 : Nat) : Int) - 1074) = (n.log2 : Int) - 52 by omega]

/-- The quotient of two whole numbers before it is rounded. -/
def qmag (n c : Nat) : Nat := 2 * (n * 2 ^ (52 - n.log2) * 2 ^ 54 / (c * 2 ^ (52 - c.log2))) + (n * 2 ^ (52 - n.log2) * 2 ^ 54 % (c * 2 ^ (52 - c.log2)) != 0).toNat
theorem div_fl {n c : Nat} (hn : 0 < n) (h : n < 2 ^ 53) (hc : 0 < c) (h' : c < 2 ^ 53) : double.div (fl n) (fl c) = some (double.nearest false (qmag n c) ((n.log2 : Int) - c.log2 - 55)) := by
  obtain ⟨h1, h2, h3⟩ := fl_mag hn h
  obtain ⟨h4, h5, h6⟩ := fl_mag hc h'
  have l1 := log2_of h1 h2
  have l2 := log2_of h4 h5
  unfold Format.div
  rw [read_fl hn h, read_fl hc h']
  unfold Datum.quotient
  simp only []
  rw [if_neg (by omega), l1, l2]
  show some (double.nearest (false ^^ false) (2 * ((n * 2 ^ (52 - n.log2)) <<< (52 + 2 + 52 - 52) / (c * 2 ^ (52 - c.log2))) + ((n * 2 ^ (52 - n.log2)) <<< (52 + 2 + 52 - 52) % (c * 2 ^ (52 - c.log2)) != 0).toNat) ((n.log2 : Int) - 52 - ((c.log2 : Int) - 52) - ((52 + 2 + 52 - 52 : Nat) : Int) - 1)) = _
  rw [Nat.shiftLeft_eq]
  have : (n.log2 : Int) - 52 - ((c.log2 : Int) - 52) - ((52 + 2 + 52 - 52 : Nat) : Int) - 1 = (n.log2 : Int) - c.log2 - 55 := by omega
  rw [this]
  rfl
/-- The sticky quotient against an even number. -/
theorem sticky_lt {A B c : Nat} (hB : 0 < B) : 2 * (A / B) + (A % B != 0).toNat < 2 * c ↔ A < c * B := by
  have h1 := Nat.div_add_mod A B
  have h2 := Nat.mod_lt A hB
  have hb : (A % B != 0).toNat ≤ 1 := by cases (A % B != 0) <;> decide
  constructor
  · intro h
    exact (Nat.div_lt_iff_lt_mul hB).1 (by omega)
  · intro h
    have := (Nat.div_lt_iff_lt_mul hB).2 h
    omega
theorem sticky_gt {A B c : Nat} (hB : 0 < B) : 2 * c < 2 * (A / B) + (A % B != 0).toNat ↔ c * B < A := by
  have h1 := Nat.div_add_mod A B
  constructor
  · intro h
    rcases Nat.lt_or_ge (c * B) A with h3 | h3
    · exact h3
    · exfalso
      rcases Nat.lt_or_ge A (c * B) with h4 | h4
      · have := (sticky_lt hB).2 h4; omega
      · have h5 : A = c * B := by omega
        rw [h5, Nat.mul_div_cancel _ hB, Nat.mul_mod_left] at h
        simp at h
  · intro h
    rcases Nat.lt_or_ge (2 * c) (2 * (A / B) + (A % B != 0).toNat) with h3 | h3
    · exact h3
    · exfalso
      have h4 : c ≤ A / B := (Nat.le_div_iff_mul_le hB).2 (by omega)
      have h5 : A / B = c := by
        have hb : (A % B != 0).toNat ≤ 1 := by cases (A % B != 0) <;> decide
        omega
      have h6 : A % B = 0 := by
        rcases Nat.eq_zero_or_pos (A % B) with h6 | h6
        · exact h6
        · have : (A % B != 0) = true := by simp; omega
          rw [this, h5] at h3
          simp only [Bool.toNat_true] at h3
          omega
      rw [h5, h6, Nat.mul_comm] at h1
      omega
/-- What rounds to M: the numbers between two midpoints. -/
theorem kept_eq {mag dr M : Nat} (hd : 1 ≤ dr) (h1 : (2 * M - 1) * 2 ^ (dr - 1) < mag) (h2 : mag < (2 * M + 1) * 2 ^ (dr - 1)) (hM : 0 < M) : mag / 2 ^ dr + upE mag dr = M := by
  have e : (2 : Nat) ^ dr = 2 * 2 ^ (dr - 1) := by rw [← Nat.pow_succ']; congr 1; omega
  have hp : 0 < 2 ^ (dr - 1) := Nat.two_pow_pos _
  obtain ⟨N, rfl⟩ : ∃ N, M = N + 1 := ⟨M - 1, by omega⟩
  rw [show 2 * (N + 1) - 1 = 2 * N + 1 by omega] at h1
  rw [show 2 * (N + 1) + 1 = 2 * N + 3 by omega] at h2
  unfold upE
  rw [e]
  generalize 2 ^ (dr - 1) = q at *
  have hdm := Nat.div_add_mod mag (2 * q)
  have hml := Nat.mod_lt mag (show 0 < 2 * q by omega)
  rw [Nat.add_mul] at h1 h2
  have a1 : N ≤ mag / (2 * q) := (Nat.le_div_iff_mul_le (by omega)).2 (by rw [show N * (2 * q) = 2 * N * q by rw [Nat.mul_left_comm, Nat.mul_assoc]]; omega)
  have a2 : mag / (2 * q) < N + 2 := (Nat.div_lt_iff_lt_mul (by omega)).2 (by rw [show (N + 2) * (2 * q) = 2 * N * q + 4 * q by rw [Nat.add_mul, Nat.mul_left_comm, Nat.mul_assoc]; omega]; omega)
  have e3 : 2 * q * N = 2 * N * q := by rw [Nat.mul_assoc, Nat.mul_comm q, ← Nat.mul_assoc]
  rcases Nat.lt_or_ge (mag / (2 * q)) (N + 1) with h3 | h3
  · have h4 : mag / (2 * q) = N := by omega
    rw [h4] at hdm ⊢
    rw [if_pos (Or.inl (by omega))]
  · have h4 : mag / (2 * q) = N + 1 := by omega
    rw [h4, Nat.mul_add, Nat.mul_one] at hdm
    rw [h4, if_neg (by omega)]
theorem kept_back {mag dr M : Nat} (hd : 1 ≤ dr) (hM : 0 < M) (h : mag / 2 ^ dr + upE mag dr = M) : (2 * M - 1) * 2 ^ (dr - 1) ≤ mag ∧ mag ≤ (2 * M + 1) * 2 ^ (dr - 1) := by
  have e : (2 : Nat) ^ dr = 2 * 2 ^ (dr - 1) := by rw [← Nat.pow_succ']; congr 1; omega
  have hp : 0 < 2 ^ (dr - 1) := Nat.two_pow_pos _
  obtain ⟨N, rfl⟩ : ∃ N, M = N + 1 := ⟨M - 1, by omega⟩
  rw [show 2 * (N + 1) - 1 = 2 * N + 1 by omega, show 2 * (N + 1) + 1 = 2 * N + 3 by omega]
  unfold upE at h
  rw [e] at h
  generalize 2 ^ (dr - 1) = q at *
  have hdm := Nat.div_add_mod mag (2 * q)
  have hml := Nat.mod_lt mag (show 0 < 2 * q by omega)
  rw [Nat.add_mul, Nat.add_mul]
  have e3 : 2 * q * N = 2 * N * q := by rw [Nat.mul_assoc, Nat.mul_comm q, ← Nat.mul_assoc]
  split at h
  · next hc =>
    have h4 : mag / (2 * q) = N := by omega
    rw [h4] at hdm
    omega
  · next hc =>
    have h4 : mag / (2 * q) = N + 1 := by omega
    rw [h4, Nat.mul_add, Nat.mul_one] at hdm
    omega

theorem qmag_log {n c : Nat} (hn : 0 < n) (h : n < 2 ^ 53) (hc : 0 < c) (h' : c < 2 ^ 53) : ∃ dr, (dr = 2 ∨ dr = 3) ∧ (qmag n c).log2 = 52 + dr := by
  obtain ⟨h1, h2, h3⟩ := fl_mag hn h
  obtain ⟨h4, h5, h6⟩ := fl_mag hc h'
  unfold qmag
  generalize n * 2 ^ (52 - n.log2) = N at *
  generalize c * 2 ^ (52 - c.log2) = C at *
  have hC : 0 < C := by omega
  have hb : (N * 2 ^ 54 % C != 0).toNat ≤ 1 := by cases (N * 2 ^ 54 % C != 0) <;> decide
  have a1 : 2 ^ 53 ≤ N * 2 ^ 54 / C := (Nat.le_div_iff_mul_le hC).2 (by omega)
  have a2 : N * 2 ^ 54 / C < 2 ^ 55 := (Nat.div_lt_iff_lt_mul hC).2 (by omega)
  generalize N * 2 ^ 54 / C = Q at *
  generalize (N * 2 ^ 54 % C != 0).toNat = R at *
  rcases Nat.lt_or_ge (2 * Q + R) (2 ^ 55) with h7 | h7
  · exact ⟨2, .inl rfl, log2_of (by omega) (by omega)⟩
  · exact ⟨3, .inr rfl, log2_of (by omega) (by omega)⟩
theorem short_iff {M t n c : Nat} (hM : 0 < M) (ht : 10 ≤ t) : ((M * 2 ^ 11 - 2 ^ 10) * c < n * 2 ^ t ↔ (2 * M - 1) * c < n * 2 ^ (t - 10)) ∧ (n * 2 ^ t < (M * 2 ^ 11 + 2 ^ 10) * c ↔ n * 2 ^ (t - 10) < (2 * M + 1) * c) := by
  have e : (2 : Nat) ^ t = 2 ^ (t - 10) * 1024 := by rw [show (1024 : Nat) = 2 ^ 10 from rfl, ← Nat.pow_add]; congr 1; omega
  have e1 : M * 2 ^ 11 - 2 ^ 10 = (2 * M - 1) * 1024 := by omega
  have e2 : M * 2 ^ 11 + 2 ^ 10 = (2 * M + 1) * 1024 := by omega
  rw [e, e1, e2, ← Nat.mul_assoc, Nat.mul_right_comm, Nat.mul_right_comm (2 * M + 1)]
  exact ⟨Nat.mul_lt_mul_right (by omega), Nat.mul_lt_mul_right (by omega)⟩
theorem no_mid {M t n k : Nat} (ht : 64 ≤ t) (hk : 1 ≤ k ∧ k ≤ 9) (A : Nat) (hA : A % 2 = 1) : A * 10 ^ k ≠ n * 2 ^ (t - 10) := by
  intro e
  have e2 : n * 2 ^ (t - 10) = n * 2 ^ (t - 20) * 1024 := by rw [Nat.mul_assoc, show (1024 : Nat) = 2 ^ 10 from rfl, ← Nat.pow_add]; congr 2; omega
  rw [e2] at e
  generalize n * 2 ^ (t - 20) = b at e
  obtain ⟨h1, h2⟩ := hk
  have hc : k = 1 ∨ k = 2 ∨ k = 3 ∨ k = 4 ∨ k = 5 ∨ k = 6 ∨ k = 7 ∨ k = 8 ∨ k = 9 := by omega
  rcases hc with rfl | rfl | rfl | rfl | rfl | rfl | rfl | rfl | rfl <;> omega
theorem pow_le_iff {c a b : Nat} (hc : 0 < c) : c * 2 ^ a < c * 2 ^ b ↔ a < b := by
  rw [Nat.mul_lt_mul_left hc]
  exact Nat.pow_lt_pow_iff_right (by omega)
/-- n / 10^k is the float M * 2^(11 - t), just if it is nearer to it than the midpoints. -/
theorem hit {M t n k : Nat} (hM : 2 ^ 52 < M ∧ M < 2 ^ 53) (ht : 64 ≤ t ∧ t ≤ 164) (hn : 0 < n) (hn' : n < 10 ^ k) (hk : 1 ≤ k ∧ k ≤ 9) :
    double.div (fl n) (fl (10 ^ k)) = some ((1085 - t) * 2 ^ 52 + M) ↔ Short (M * 2 ^ 11) t n k := by
  have hc9 : (10 : Nat) ^ k ≤ 10 ^ 9 := Nat.pow_le_pow_right (by omega) hk.2
  have hc0 : (0 : Nat) < 10 ^ k := Nat.pow_pos (by omega)
  have hc53 : (10 : Nat) ^ k < 2 ^ 53 := by omega
  have hn53 : n < 2 ^ 53 := by omega
  have la : n.log2 ≤ 29 := by have := (Nat.log2_lt (Nat.pos_iff_ne_zero.1 hn)).2 (show n < 2 ^ 30 by omega); omega
  have lb : (10 ^ k).log2 ≤ 29 := by have := (Nat.log2_lt (Nat.pos_iff_ne_zero.1 hc0)).2 (show 10 ^ k < 2 ^ 30 by omega); omega
  have hmid : ∀ A, A % 2 = 1 → A * 10 ^ k ≠ n * 2 ^ (t - 10) := fun A hA => no_mid (M := M) ht.1 hk A hA
  rw [div_fl hn hn53 hc0 hc53]
  obtain ⟨dr, hdr, hlog⟩ := qmag_log hn hn53 hc0 hc53
  have hS := short_iff (M := M) (t := t) (n := n) (c := 10 ^ k) (by omega) (by omega)
  unfold Short
  rw [hS.1, hS.2, nearest_norm hlog (by omega) (by omega)]
  have hkept := kept_in hlog
  obtain ⟨q1, q2, q3⟩ := fl_mag hc0 hc53
  have hB : 0 < 10 ^ k * 2 ^ (52 - (10 ^ k).log2) := by omega
  have d1 : 1 ≤ dr := by omega
  have ed : (2 : Nat) ^ (dr - 1) = 2 * 2 ^ (dr - 2) := by rw [← Nat.pow_succ']; congr 1; omega
  -- the two comparisons
  have scale : ∀ A u : Nat, u = dr - 2 + (52 - (10 ^ k).log2) → t + dr + n.log2 = 66 + (10 ^ k).log2 → A * 2 ^ (dr - 2) * (10 ^ k * 2 ^ (52 - (10 ^ k).log2)) = A * 10 ^ k * 2 ^ u ∧ n * 2 ^ (52 - n.log2) * 2 ^ 54 = n * 2 ^ (t - 10) * 2 ^ u := by
    intro A u hu he
    constructor
    · rw [hu, Nat.pow_add]
      simp only [Nat.mul_comm, Nat.mul_left_comm, Nat.mul_assoc]
    · rw [Nat.mul_assoc, Nat.mul_assoc, ← Nat.pow_add, ← Nat.pow_add]
      congr 2
      omega
  constructor
  · intro h
    have h := Option.some.inj h
    have hdrt : t + dr + n.log2 = 66 + (10 ^ k).log2 := by
      obtain ⟨E, hE⟩ : ∃ E, E = ((n.log2 : Int) - (10 ^ k).log2 - 55 + dr + 1074).toNat := ⟨_, rfl⟩
      rw [← hE] at h
      have : E = 1085 - t := by omega
      omega
    have hk2 : qmag n (10 ^ k) / 2 ^ dr + upE (qmag n (10 ^ k)) dr = M := by
      have : ((n.log2 : Int) - (10 ^ k).log2 - 55 + dr + 1074).toNat = 1085 - t := by omega
      rw [this] at h
      omega
    obtain ⟨b1, b2⟩ := kept_back d1 (by omega) hk2
    rw [ed] at b1 b2
    obtain ⟨s1, s2⟩ := scale (2 * M - 1) _ rfl hdrt
    obtain ⟨s3, _⟩ := scale (2 * M + 1) _ rfl hdrt
    have c1 : ¬ qmag n (10 ^ k) < 2 * ((2 * M - 1) * 2 ^ (dr - 2)) := by rw [Nat.mul_left_comm]; omega
    have c2 : ¬ 2 * ((2 * M + 1) * 2 ^ (dr - 2)) < qmag n (10 ^ k) := by rw [Nat.mul_left_comm]; omega
    unfold qmag at c1 c2
    rw [sticky_lt hB, s1, s2, Nat.mul_lt_mul_right (Nat.two_pow_pos _)] at c1
    rw [sticky_gt hB, s3, s2, Nat.mul_lt_mul_right (Nat.two_pow_pos _)] at c2
    have m1 := hmid (2 * M - 1) (by omega)
    have m2 := hmid (2 * M + 1) (by omega)
    omega
  · rintro ⟨g1, g2⟩
    have hdrt : t + dr + n.log2 = 66 + (10 ^ k).log2 := by
      have hq0 : qmag n (10 ^ k) ≠ 0 := fun e => by rw [e] at hlog; simp at hlog; omega
      obtain ⟨w1, w2⟩ := log2_in hq0 hlog
      have w1' : ¬ qmag n (10 ^ k) < 2 * 2 ^ (51 + dr) := by rw [← Nat.pow_succ', show (51 + dr).succ = 52 + dr by omega]; omega
      have w2' : qmag n (10 ^ k) < 2 * 2 ^ (52 + dr) := by rw [← Nat.pow_succ', show (52 + dr).succ = 52 + dr + 1 by omega]; exact w2
      unfold qmag at w1' w2'
      rw [sticky_lt hB] at w1' w2'
      have hY : n * 2 ^ (52 - n.log2) * 2 ^ 54 * 2 ^ (t + 84 + n.log2) = n * 2 ^ (t - 10) * 2 ^ 200 := by
        rw [Nat.mul_assoc, Nat.mul_assoc, Nat.mul_assoc, ← Nat.pow_add, ← Nat.pow_add, ← Nat.pow_add]
        congr 2
        omega
      have x1 : 10 ^ k * 2 ^ (187 + dr + t + n.log2 - (10 ^ k).log2) ≤ n * 2 ^ (t - 10) * 2 ^ 200 := by
        rw [← hY]
        have := Nat.mul_le_mul_right (2 ^ (t + 84 + n.log2)) (Nat.not_lt.1 w1')
        refine Nat.le_trans (Nat.le_of_eq ?_) this
        rw [Nat.mul_left_comm, Nat.mul_assoc, Nat.mul_assoc, ← Nat.pow_add, ← Nat.pow_add]
        congr 2
        omega
      have x2 : n * 2 ^ (t - 10) * 2 ^ 200 < 10 ^ k * 2 ^ (188 + dr + t + n.log2 - (10 ^ k).log2) := by
        rw [← hY]
        have := Nat.mul_lt_mul_of_pos_right w2' (Nat.two_pow_pos (t + 84 + n.log2))
        refine Nat.lt_of_lt_of_le this (Nat.le_of_eq ?_)
        rw [Nat.mul_left_comm, Nat.mul_assoc, Nat.mul_assoc, ← Nat.pow_add, ← Nat.pow_add]
        congr 2
        omega
      have y1 : 10 ^ k * 2 ^ 253 < n * 2 ^ (t - 10) * 2 ^ 200 := by
        have : 2 ^ 53 * 10 ^ k ≤ (2 * M - 1) * 10 ^ k := Nat.mul_le_mul_right _ (by omega)
        have e : 10 ^ k * 2 ^ 253 = 2 ^ 53 * 10 ^ k * 2 ^ 200 := by rw [Nat.mul_comm (2 ^ 53), Nat.mul_assoc, ← Nat.pow_add]
        rw [e]
        exact Nat.mul_lt_mul_of_pos_right (by omega) (Nat.two_pow_pos _)
      have y2 : n * 2 ^ (t - 10) * 2 ^ 200 < 10 ^ k * 2 ^ 254 := by
        have : (2 * M + 1) * 10 ^ k ≤ 2 ^ 54 * 10 ^ k := Nat.mul_le_mul_right _ (by omega)
        have e : 10 ^ k * 2 ^ 254 = 2 ^ 54 * 10 ^ k * 2 ^ 200 := by rw [Nat.mul_comm (2 ^ 54), Nat.mul_assoc, ← Nat.pow_add]
        rw [e]
        exact Nat.mul_lt_mul_of_pos_right (by omega) (Nat.two_pow_pos _)
      have z1 := (pow_le_iff hc0).1 (Nat.lt_of_le_of_lt x1 y2)
      have z2 := (pow_le_iff hc0).1 (Nat.lt_trans y1 x2)
      omega
    obtain ⟨s1, s2⟩ := scale (2 * M - 1) _ rfl hdrt
    obtain ⟨s3, _⟩ := scale (2 * M + 1) _ rfl hdrt
    have k1 : (2 * M - 1) * 2 ^ (dr - 1) < qmag n (10 ^ k) := by
      rw [ed, Nat.mul_left_comm]
      unfold qmag
      rw [sticky_gt hB, s1, s2]
      exact Nat.mul_lt_mul_of_pos_right g1 (Nat.two_pow_pos _)
    have k2 : qmag n (10 ^ k) < (2 * M + 1) * 2 ^ (dr - 1) := by
      rw [ed, Nat.mul_left_comm]
      unfold qmag
      rw [sticky_lt hB, s3, s2]
      exact Nat.mul_lt_mul_of_pos_right g2 (Nat.two_pow_pos _)
    rw [kept_eq d1 k1 k2 (by omega)]
    have : ((n.log2 : Int) - (10 ^ k).log2 - 55 + dr + 1074).toNat = 1085 - t := by omega
    rw [this]
/-- A float that is less than 2^-100 is none of these. -/
theorem hit_tiny {n k : Nat} (hn : 0 < n) (hn' : n < 10 ^ k) (hk : 1 ≤ k ∧ k ≤ 9) {r : Nat} (h : double.div (fl n) (fl (10 ^ k)) = some r) : 922 * 2 ^ 52 < r ∧ r ≤ 1150 * 2 ^ 52 := by
  have hc9 : (10 : Nat) ^ k ≤ 10 ^ 9 := Nat.pow_le_pow_right (by omega) hk.2
  have hc0 : (0 : Nat) < 10 ^ k := Nat.pow_pos (by omega)
  have hc53 : (10 : Nat) ^ k < 2 ^ 53 := by omega
  have hn53 : n < 2 ^ 53 := by omega
  have la : n.log2 ≤ 29 := by have := (Nat.log2_lt (Nat.pos_iff_ne_zero.1 hn)).2 (show n < 2 ^ 30 by omega); omega
  have lb : (10 ^ k).log2 ≤ 29 := by have := (Nat.log2_lt (Nat.pos_iff_ne_zero.1 hc0)).2 (show 10 ^ k < 2 ^ 30 by omega); omega
  rw [div_fl hn hn53 hc0 hc53] at h
  obtain ⟨dr, hdr, hlog⟩ := qmag_log hn hn53 hc0 hc53
  rw [nearest_norm hlog (by omega) (by omega)] at h
  have hkept := kept_in hlog
  have h := Option.some.inj h
  omega
theorem div_some {n k : Nat} (hn : 0 < n) (hn' : n < 10 ^ k) (hk : 1 ≤ k ∧ k ≤ 9) : ∃ r, double.div (fl n) (fl (10 ^ k)) = some r := by
  have hc9 : (10 : Nat) ^ k ≤ 10 ^ 9 := Nat.pow_le_pow_right (by omega) hk.2
  have hc0 : (0 : Nat) < 10 ^ k := Nat.pow_pos (by omega)
  exact ⟨_, div_fl hn (by omega) hc0 (by omega)⟩
end Go.Proofs.YtckjffhimofikaaDoor.FF
