/- A float times a power of ten, cut to a whole number. -/
import Derived.Test.YtckjffhimofikaaDoorOrd
namespace Go.Proofs.YtckjffhimofikaaDoor.FF
open Ieee
set_option linter.unusedVariables false
set_option maxRecDepth 4000
set_option linter.unusedSimpArgs false

theorem cut_zero (n drop : Nat) (h : n < 2 ^ 54) : Toward.zero.cut false n drop = n / 2 ^ drop := by
  unfold Toward.cut
  simp only [Bool.toNat_false, Nat.add_zero, Nat.one_shiftLeft]
  rcases Nat.le_total drop (n.log2 + 2) with h1 | h1
  · rw [Nat.min_eq_left h1]
  · rw [Nat.min_eq_right h1]
    have h2 : n < 2 ^ (n.log2 + 2) := Nat.lt_of_lt_of_le Nat.lt_log2_self (Nat.pow_le_pow_right (by omega) (by omega))
    have h3 : n < 2 ^ drop := Nat.lt_of_lt_of_le h2 (Nat.pow_le_pow_right (by omega) h1)
    rw [Nat.div_eq_of_lt h2, Nat.div_eq_of_lt h3]
theorem cut_le (n drop : Nat) (h : n.log2 ≤ 52 + drop) : Toward.even.cut false n drop ≤ 2 ^ 53 := by
  rcases Nat.le_total drop (n.log2 + 2) with h1 | h1
  · rw [cut_any n drop h1]
    have h2 := upE_le n drop
    have h3 : n / 2 ^ drop < 2 ^ 53 := by
      rw [Nat.div_lt_iff_lt_mul (Nat.two_pow_pos _), ← Nat.pow_add]
      exact Nat.lt_of_lt_of_le Nat.lt_log2_self (Nat.pow_le_pow_right (by omega) (by omega))
    omega
  · unfold Toward.cut
    rw [Nat.min_eq_right h1]
    simp only [Nat.one_shiftLeft]
    have h2 : n < 2 ^ (n.log2 + 2) := Nat.lt_of_lt_of_le Nat.lt_log2_self (Nat.pow_le_pow_right (by omega) (by omega))
    rw [Nat.div_eq_of_lt h2]
    have : ∀ b : Bool, b.toNat ≤ 1 := by decide
    exact Nat.le_trans (Nat.add_le_add_left (this _) 0) (by decide)
theorem toInt_read {y : Nat} (h : y ≤ 1060 * 2 ^ 52) : ∃ n : Nat, Go.floatToIntVal .f64 y .i64 = some (n : Int) ∧ n < 2 ^ 53 := by
  obtain ⟨k, m, e, h1, h2, h3, _⟩ := read_pos (b := y) (by omega)
  refine ⟨m / 2 ^ (1074 - k), ?_, Nat.lt_of_le_of_lt (Nat.div_le_self ..) h1⟩
  have hk : k ≤ 1060 := by omega
  have hb : m / 2 ^ (1074 - k) ≤ m := Nat.div_le_self ..
  unfold Go.floatToIntVal
  have e1 : Go.FloatKind.f64.decode y = .number false m ((k : Int) - 1074) := h3
  rw [e1]
  have e2 : (Datum.number false m ((k : Int) - 1074)).toInt .zero = some ((m / 2 ^ (1074 - k) : Nat) : Int) := by
    unfold Datum.toInt Datum.integral
    simp only []
    rw [show ((k : Int) - 1074).toNat = 0 by omega, show (-((k : Int) - 1074)).toNat = 1074 - k by omega, Nat.shiftLeft_zero, cut_zero _ _ (by omega), shl_eq, Nat.pow_zero, Nat.mul_one]
  rw [e2]
  simp only []
  generalize m / 2 ^ (1074 - k) = q at *
  rw [if_pos]
  constructor
  · show (-9223372036854775808 : Int) ≤ _
    omega
  · show _ ≤ (9223372036854775807 : Int)
    omega
theorem mul_def {b c k m : Nat} (hr : double.read b = .number false m ((k : Int) - 1074)) (hc : 0 < c) (hc2 : c < 2 ^ 53) :
    double.mul b (fl c) = some (double.nearest false (m * (c * 2 ^ (52 - c.log2))) ((k : Int) - 1074 + ((c.log2 : Int) - 52))) := by
  unfold Format.mul
  rw [hr, read_fl hc hc2]
  rfl
theorem near_any {b c : Nat} (h0 : 0 < b) (h : b ≤ 4607182418800017408) (hc : 0 < c) (hc2 : c ≤ 10 ^ 9) : ∃ y near : Nat, double.mul b (fl c) = some y ∧ Go.floatToIntVal .f64 y .i64 = some (near : Int) ∧ near < 2 ^ 53 := by
  obtain ⟨k, m, e, h1, h2, h3, _⟩ := read_pos (b := b) (by omega)
  obtain ⟨f1, f2, f3⟩ := fl_mag hc (show c < 2 ^ 53 by omega)
  have lb : c.log2 ≤ 29 := by have := (Nat.log2_lt (Nat.pos_iff_ne_zero.1 hc)).2 (show c < 2 ^ 30 by omega); omega
  have hm0 : 0 < m := by
    rcases Nat.eq_zero_or_pos m with hm | hm
    · rcases Nat.eq_zero_or_pos k with hk | hk
      · omega
      · have := h2 hk; omega
    · exact hm
  have hk : k ≤ 1022 := by
    rcases Nat.lt_or_ge 1022 k with hk | hk
    · have := h2 (by omega); omega
    · exact hk
  rw [mul_def h3 hc (by omega)]
  generalize hC : c * 2 ^ (52 - c.log2) = C at *
  have hmag : m * C ≠ 0 := by
    have : 0 < m * C := Nat.mul_pos hm0 (by omega)
    omega
  have hlg : (m * C).log2 ≤ 105 := by
    have : m * C < 2 ^ 53 * 2 ^ 53 := Nat.mul_lt_mul_of_le_of_lt (by omega) f2 (by omega)
    have := (Nat.log2_lt hmag).2 (show m * C < 2 ^ 106 by omega)
    omega
  rw [nearest_def hmag]
  obtain ⟨place, hpl⟩ : ∃ place : Int, place = (k : Int) - 1074 + ((c.log2 : Int) - 52) := ⟨_, rfl⟩
  rw [← hpl]
  obtain ⟨last, hla⟩ : ∃ last : Int, last = max (place + ((m * C).log2 : Int) - (52 : Nat)) (-1074) := ⟨_, rfl⟩
  rw [← hla]
  have hl1 : last ≤ -22 := by
    clear h1 h2 h3 h0 h f1 f2 hmag hm0 e
    generalize (m * C).log2 = lg at *
    omega
  have hkept : Toward.even.cut false ((m * C) <<< (place - last).toNat) (last - place).toNat ≤ 2 ^ 53 := by
    apply cut_le
    clear h1 h2 h3 h0 h f1 f2 hm0 e hlg
    generalize m * C = X at *
    rcases Int.le_total place last with hp | hp
    · rw [show (place - last).toNat = 0 by omega, Nat.shiftLeft_zero]
      generalize X.log2 = lg at *
      omega
    · rw [show (last - place).toNat = 0 by omega, Nat.shiftLeft_eq, Nat.mul_comm]
      have hple : (place - last).toNat + (X.log2 + 1) ≤ 53 := by
        generalize X.log2 = lg at *
        omega
      have : 2 ^ (place - last).toNat * X < 2 ^ 53 := by
        have h5 : X < 2 ^ (X.log2 + 1) := Nat.lt_log2_self
        refine Nat.lt_of_lt_of_le (Nat.mul_lt_mul_of_pos_left h5 (Nat.two_pow_pos _)) ?_
        rw [← Nat.pow_add]
        exact Nat.pow_le_pow_right (by decide) hple
      have h6 : 2 ^ (place - last).toNat * X ≠ 0 := Nat.pos_iff_ne_zero.1 (Nat.mul_pos (Nat.two_pow_pos (place - last).toNat) (Nat.pos_of_ne_zero hmag))
      have h7 := (Nat.log2_lt h6).2 this
      generalize (2 ^ (place - last).toNat * X).log2 = lg at *
      omega
  generalize Toward.even.cut false ((m * C) <<< (place - last).toNat) (last - place).toNat = K at *
  clear h1 h2 h3 h0 h f1 f2 hm0 e hlg hmag hpl hla hC
  obtain ⟨y, hy⟩ : ∃ y, y = min ((last + 1074).toNat * 2 ^ 52 + K) (2047 * 2 ^ 52) := ⟨_, rfl⟩
  rw [← hy]
  obtain ⟨n, hn1, hn2⟩ := toInt_read (y := y) (by omega)
  exact ⟨y, n, rfl, hn1, hn2⟩
theorem int_read {y m k' : Nat} (h3 : double.read y = .number false m ((k' : Int) - 1074)) (q1 : m < 2 ^ 53) (q3 : k' ≤ 1074) : Go.floatToIntVal .f64 y .i64 = some ((m / 2 ^ (1074 - k') : Nat) : Int) := by
  have hb : m / 2 ^ (1074 - k') ≤ m := Nat.div_le_self ..
  unfold Go.floatToIntVal
  have e1 : Go.FloatKind.f64.decode y = .number false m ((k' : Int) - 1074) := h3
  rw [e1]
  have e2 : (Datum.number false m ((k' : Int) - 1074)).toInt .zero = some ((m / 2 ^ (1074 - k') : Nat) : Int) := by
    unfold Datum.toInt Datum.integral
    simp only []
    rw [show ((k' : Int) - 1074).toNat = 0 by omega, show (-((k' : Int) - 1074)).toNat = 1074 - k' by omega, Nat.shiftLeft_zero, cut_zero _ _ (by omega), shl_eq, Nat.pow_zero, Nat.mul_one]
  rw [e2]
  simp only []
  clear e1 e2 h3
  generalize m / 2 ^ (1074 - k') = q at *
  rw [if_pos]
  constructor
  · show (-9223372036854775808 : Int) ≤ _
    omega
  · show _ ≤ (9223372036854775807 : Int)
    omega
theorem pw (L : Nat) (h : L ≤ 1000) : (1075 - L) * 2 ^ 52 + 2 ^ 52 = (1074 - L) * 2 ^ 52 + 2 ^ 53 := by omega
theorem up_lem {nt X tt cc : Nat} (h : X - cc < nt) (hc : cc < tt) : X < nt + tt := by omega
theorem lo_lem {nt nt1 X tt cc : Nat} (h : nt < X + cc) (hc : cc < tt) (e : nt1 + tt = nt) : nt1 ≤ X := by omega
theorem told_int {y near m k' : Nat} (hy : y = k' * 2 ^ 52 + m) (q1 : m < 2 ^ 53) (q2 : 2 ^ 52 ≤ m) (q3 : k' ≤ 1074) (hnear : Go.floatToIntVal .f64 y .i64 = some (near : Int)) : near = m / 2 ^ (1074 - k') := by
  have h3 := read_norm (E := k') (kept := m) q2 q1 (Nat.le_trans q3 (by decide))
  rw [← hy] at h3
  have h := (int_read h3 q1 q3).symm.trans hnear
  have h := Option.some.inj h
  exact (Int.ofNat.inj h).symm
/-- .. of a short decimal: its digits, or next to them. -/
theorem near_reg {M t n k : Nat} (hM : 2 ^ 52 ≤ M ∧ M < 2 ^ 53) (ht : 64 ≤ t ∧ t ≤ 164) (hk : 1 ≤ k ∧ k ≤ 9) (hn : 0 < n) (hS : Short (M * 2 ^ 11) t n k) {y near : Nat}
    (hy : double.mul ((1085 - t) * 2 ^ 52 + M) (fl (10 ^ k)) = some y) (hnear : Go.floatToIntVal .f64 y .i64 = some (near : Int)) : n ≤ near + 1 ∧ near ≤ n + 1 := by
  have hc9 : (10 : Nat) ^ k ≤ 10 ^ 9 := Nat.pow_le_pow_right (by omega) hk.2
  have hc0 : (0 : Nat) < 10 ^ k := Nat.pow_pos (by omega)
  obtain ⟨c, hc⟩ : ∃ c, c = 10 ^ k := ⟨_, rfl⟩
  unfold Short at hS
  rw [← hc] at hc9 hc0 hy hS
  have hcc : c * 2 ^ 10 < 2 ^ 64 := by clear hS hy hnear; omega
  obtain ⟨f1, f2, f3⟩ := fl_mag hc0 (show c < 2 ^ 53 by omega)
  have lb : c.log2 ≤ 29 := by have := (Nat.log2_lt (Nat.pos_iff_ne_zero.1 hc0)).2 (show c < 2 ^ 30 by omega); omega
  have hr := read_norm (E := 1085 - t) (kept := M) hM.1 hM.2 (by omega)
  rw [mul_def hr hc0 (by omega)] at hy
  obtain ⟨C, hC⟩ : ∃ C, C = c * 2 ^ (52 - c.log2) := ⟨_, rfl⟩
  rw [← hC] at hy f1 f2
  have m1 : 2 ^ 52 * 2 ^ 52 ≤ M * C := Nat.mul_le_mul hM.1 f1
  have m2 : M * C < 2 ^ 53 * 2 ^ 53 := Nat.mul_lt_mul_of_le_of_lt (by omega) f2 (by omega)
  obtain ⟨dr, hdr, hlog⟩ : ∃ dr, (dr = 52 ∨ dr = 53) ∧ (M * C).log2 = 52 + dr := by
    rcases Nat.lt_or_ge (M * C) (2 ^ 105) with h | h
    · exact ⟨52, .inl rfl, log2_of (by omega) (by omega)⟩
    · exact ⟨53, .inr rfl, log2_of (by omega) (by omega)⟩
  rw [nearest_norm hlog (by omega) (by omega)] at hy
  have hy := Option.some.inj hy
  have hkept := kept_in hlog
  have hup := upE_le (M * C) dr
  obtain ⟨Q, hQ⟩ : ∃ Q, Q = M * C / 2 ^ dr := ⟨_, rfl⟩
  rw [← hQ] at hy hkept
  obtain ⟨L, hL⟩ : ∃ L : Nat, (L : Int) = (t : Int) - c.log2 - dr + 41 := ⟨((t : Int) - c.log2 - dr + 41).toNat, by omega⟩
  obtain ⟨U, hU⟩ : ∃ U, U = upE (M * C) dr := ⟨_, rfl⟩
  rw [← hU] at hy hkept hup
  clear hU
  obtain ⟨kept, hkp⟩ : ∃ kept, kept = Q + U := ⟨_, rfl⟩
  rw [← hkp] at hy hkept
  -- what is told is kept / 2^L
  have hval : near = kept / 2 ^ L := by
    have hE : ((((1085 - t : Nat) : Int)) - 1074 + ((c.log2 : Int) - 52) + dr + 1074).toNat = 1074 - L := by omega
    rw [hE] at hy
    have hL1 : 1 ≤ L := by omega
    have hL2 : L ≤ 1000 := by omega
    rcases Nat.lt_or_ge kept (2 ^ 53) with h | h
    · have := told_int (m := kept) (k' := 1074 - L) hy.symm h hkept.1 (Nat.sub_le ..) hnear
      rw [this, show 1074 - (1074 - L) = L by clear hy this; omega]
    · have h53 : kept = 2 ^ 53 := by omega
      have hy2 : (1075 - L) * 2 ^ 52 + 2 ^ 52 = y := by rw [← hy, h53]; exact pw L hL2
      have := told_int (m := 2 ^ 52) (k' := 1075 - L) hy2.symm (by decide) (by decide) (by clear hy hy2; omega) hnear
      have e3 : 2 ^ 53 / 2 ^ L = 2 ^ 52 / 2 ^ (L - 1) := by
        have e4 : (2 : Nat) ^ L = 2 ^ (L - 1) * 2 := by rw [← Nat.pow_succ]; congr 1; clear hy hy2 this; omega
        rw [e4, show (2 : Nat) ^ 53 = 2 ^ 52 * 2 from rfl, Nat.mul_div_mul_right _ _ (by decide)]
      have e5 : 1074 - (1075 - L) = L - 1 := by clear hy hy2 this e3; omega
      rw [this, e5, h53, e3]
  have hN0 : kept / 2 ^ L = M * C / 2 ^ (dr + L) ∨ kept / 2 ^ L = M * C / 2 ^ (dr + L) + 1 := by
    have e : M * C / 2 ^ (dr + L) = Q / 2 ^ L := by rw [hQ, Nat.div_div_eq_div_mul, Nat.pow_add]
    rw [e]
    have hp : 0 < 2 ^ L := Nat.two_pow_pos _
    have h1 : Q / 2 ^ L ≤ kept / 2 ^ L := Nat.div_le_div_right (by omega)
    have h2 : kept / 2 ^ L ≤ (Q + 2 ^ L) / 2 ^ L := Nat.div_le_div_right (by omega)
    rw [Nat.add_div_right _ hp] at h2
    omega
  -- against n
  have hMC : M * C = M * c * 2 ^ 11 * 2 ^ (41 - c.log2) := by
    rw [hC, ← Nat.mul_assoc, Nat.mul_assoc (M * c), ← Nat.pow_add]
    congr 2
    omega
  have hDL : (2 : Nat) ^ (dr + L) = 2 ^ t * 2 ^ (41 - c.log2) := by rw [← Nat.pow_add]; congr 1; omega
  have hV : M * C / 2 ^ (dr + L) = M * c * 2 ^ 11 / 2 ^ t := by
    rw [hMC, hDL, Nat.mul_div_mul_right _ _ (Nat.two_pow_pos _)]
  have ht64 : (2 : Nat) ^ 64 ≤ 2 ^ t := Nat.pow_le_pow_right (by omega) ht.1
  have e1 : (M * 2 ^ 11 - 2 ^ 10) * c = M * c * 2 ^ 11 - c * 2 ^ 10 := by rw [Nat.sub_mul, Nat.mul_right_comm, Nat.mul_comm (2 ^ 10)]
  have e2 : (M * 2 ^ 11 + 2 ^ 10) * c = M * c * 2 ^ 11 + c * 2 ^ 10 := by rw [Nat.add_mul, Nat.mul_right_comm, Nat.mul_comm (2 ^ 10)]
  rw [e1, e2] at hS
  have hcc2 := Nat.lt_of_lt_of_le hcc ht64
  have u1 : M * c * 2 ^ 11 / 2 ^ t < n + 1 := by
    rw [Nat.div_lt_iff_lt_mul (Nat.two_pow_pos _), Nat.add_mul, Nat.one_mul]
    exact up_lem hS.1 hcc2
  have u2 : n - 1 ≤ M * c * 2 ^ 11 / 2 ^ t := by
    rw [Nat.le_div_iff_mul_le (Nat.two_pow_pos _)]
    refine lo_lem hS.2 hcc2 ?_
    rw [← Nat.succ_mul]
    congr 1
    exact Nat.sub_add_cancel hn
  rw [hV] at hN0
  generalize M * c * 2 ^ 11 / 2 ^ t = V at *
  generalize kept / 2 ^ L = K at *
  clear hy hnear hV hMC hDL e1 e2 hS hC hQ hkp
  omega
end Go.Proofs.YtckjffhimofikaaDoor.FF
