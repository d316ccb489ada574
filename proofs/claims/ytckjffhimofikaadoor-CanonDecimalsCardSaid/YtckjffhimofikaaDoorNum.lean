/- Short decimals of floats, in plain numbers: unrounded scaling with an exact power of ten. -/
import Init
namespace Go.Proofs.YtckjffhimofikaaDoor.FF
set_option linter.unusedVariables false
set_option linter.unusedSimpArgs false

def unr (T g : Nat) : Nat := if T % g = 0 then T / g else T / g / 2 * 2 + 1
section
variable {T g D : Nat}
theorem unr_lt (hg : 0 < g) (h : T < 4 * D * g) : unr T g + 1 ≤ 4 * D := by
  have h1 : T / g < 4 * D := (Nat.div_lt_iff_lt_mul hg).2 h
  unfold unr
  split <;> omega
theorem unr_ge (hg : 0 < g) (h : 4 * D ≤ unr T g) : 4 * D * g ≤ T := by
  rcases Nat.lt_or_ge T (4 * D * g) with hlt | hge
  · have := unr_lt hg hlt; omega
  · exact hge
theorem unr_gt (hg : 0 < g) (h : 4 * D * g < T) : 4 * D + 1 ≤ unr T g := by
  have h1 : 4 * D ≤ T / g := (Nat.le_div_iff_mul_le hg).2 (Nat.le_of_lt h)
  unfold unr
  split
  · next e =>
    have h2 := Nat.div_add_mod T g
    rw [e, Nat.add_zero] at h2
    rcases Nat.lt_or_ge (4 * D) (T / g) with h3 | h3
    · omega
    · exfalso
      have h4 : T / g = 4 * D := by omega
      rw [h4, Nat.mul_comm] at h2
      omega
  · omega
theorem unr_le2 (hg : 0 < g) {A : Nat} (hA : A % 2 = 0) (h : unr T g ≤ A) : T ≤ A * g := by
  have h2 := Nat.div_add_mod T g
  have h3 := Nat.mod_lt T hg
  unfold unr at h
  split at h
  · next e =>
    rw [e, Nat.add_zero, Nat.mul_comm] at h2
    rw [← h2]
    exact Nat.mul_le_mul_right g h
  · have h4 : T / g + 1 ≤ A := by omega
    have h5 : (T / g + 1) * g ≤ A * g := Nat.mul_le_mul_right g h4
    rw [Nat.add_mul, Nat.one_mul, Nat.mul_comm] at h5
    omega
theorem unr_ge2 (hg : 0 < g) {A : Nat} (hA : A % 2 = 0) (h : A ≤ unr T g) : A * g ≤ T := by
  have h2 : T / g * g ≤ T := Nat.div_mul_le_self T g
  have h4 : A ≤ T / g := by
    unfold unr at h
    split at h <;> omega
  exact Nat.le_trans (Nat.mul_le_mul_right g h4) h2
theorem unr_le (hg : 0 < g) (h : unr T g ≤ 4 * D) : T ≤ 4 * D * g := unr_le2 hg (by omega) h
end

/-- The high half of a product, scaled: as the program does it. -/
def usc (x hi lo s : Nat) : Nat :=
  if x * hi / 2 ^ 64 % 2 ^ s ≠ 0 then x * hi / 2 ^ 64 / 2 ^ s / 2 * 2 + 1
  else if x * hi % 2 ^ 64 < x * lo / 2 ^ 64 then (x * hi / 2 ^ 64 - 1) / 2 ^ s / 2 * 2 + 1
  else if x * lo / 2 ^ 64 + 1 < x * hi % 2 ^ 64 then x * hi / 2 ^ 64 / 2 ^ s / 2 * 2 + 1
  else x * hi / 2 ^ 64 / 2 ^ s

theorem div_pow (H r s : Nat) (hr : r < 2 ^ 128) : (2 ^ 128 * H + r) / 2 ^ (128 + s) = H / 2 ^ s ∧ (2 ^ 128 * H + r) % 2 ^ (128 + s) = 2 ^ 128 * (H % 2 ^ s) + r := by
  have e : (2 : Nat) ^ (128 + s) = 2 ^ 128 * 2 ^ s := Nat.pow_add ..
  rw [e]
  have hp : (0 : Nat) < 2 ^ 128 := Nat.two_pow_pos _
  constructor
  · rw [← Nat.div_div_eq_div_mul, Nat.mul_add_div hp, Nat.div_eq_of_lt hr, Nat.add_zero]
  · rw [Nat.mod_mul, Nat.mul_add_mod, Nat.mod_eq_of_lt hr, Nat.mul_add_div hp, Nat.div_eq_of_lt hr, Nat.add_zero]
    omega
theorem usc_spec (x hi lo s : Nat) (hx : x < 2 ^ 64) (hhi : hi < 2 ^ 64) (hlo : lo < 2 ^ 64) (hp : x * lo ≤ x * hi * 2 ^ 64) :
    ∃ T', usc x hi lo s = unr T' (2 ^ (128 + s)) ∧ T' ≤ x * hi * 2 ^ 64 - x * lo + 2 ^ 64 ∧ x * hi * 2 ^ 64 - x * lo ≤ T' + 2 ^ 64 := by
  have hq1 : x * lo ≤ (2 ^ 64 - 1) * (2 ^ 64 - 1) := Nat.mul_le_mul (by omega) (by omega)
  obtain ⟨A, hA⟩ : ∃ A, A = x * hi := ⟨_, rfl⟩
  obtain ⟨B, hB⟩ : ∃ B, B = x * lo := ⟨_, rfl⟩
  unfold usc
  rw [← hA] at hp
  rw [← hB] at hp hq1
  rw [← hA, ← hB]
  obtain ⟨h, hh⟩ : ∃ h, h = A / 2 ^ 64 := ⟨_, rfl⟩
  obtain ⟨mid, hmid⟩ : ∃ mid, mid = A % 2 ^ 64 := ⟨_, rfl⟩
  obtain ⟨m2, hm2⟩ : ∃ m2, m2 = B / 2 ^ 64 := ⟨_, rfl⟩
  obtain ⟨l2, hl2⟩ : ∃ l2, l2 = B % 2 ^ 64 := ⟨_, rfl⟩
  rw [← hh, ← hmid, ← hm2]
  have e1 : A = 2 ^ 64 * h + mid := by rw [hh, hmid]; omega
  have e2 : B = 2 ^ 64 * m2 + l2 := by rw [hm2, hl2]; omega
  have b1 : mid < 2 ^ 64 := by omega
  have b2 : l2 < 2 ^ 64 := by omega
  have b3 : m2 ≤ 2 ^ 64 - 2 := by omega
  clear hh hmid hm2 hl2
  subst e1 e2
  have hs : (0 : Nat) < 2 ^ s := Nat.two_pow_pos _
  split
  · next hne =>
    -- the low digits tell it
    by_cases hc : 2 ^ 64 * m2 + l2 ≤ 2 ^ 64 * mid
    · have hT : (2 ^ 64 * h + mid) * 2 ^ 64 - (2 ^ 64 * m2 + l2) = 2 ^ 128 * h + (2 ^ 64 * mid - (2 ^ 64 * m2 + l2)) := by omega
      refine ⟨_, ?_, Nat.le_add_right _ _, Nat.le_add_right _ _⟩
      rw [hT]
      obtain ⟨d1, d2⟩ := div_pow h (2 ^ 64 * mid - (2 ^ 64 * m2 + l2)) s (by omega)
      unfold unr
      rw [d1, d2, if_neg (by omega)]
    · have h0 : 0 < h := by
        rcases Nat.eq_zero_or_pos h with h0 | h0
        · rw [h0, Nat.zero_mod] at hne; exact absurd rfl hne
        · exact h0
      have hT : (2 ^ 64 * h + mid) * 2 ^ 64 - (2 ^ 64 * m2 + l2) = 2 ^ 128 * (h - 1) + (2 ^ 128 + 2 ^ 64 * mid - (2 ^ 64 * m2 + l2)) := by omega
      refine ⟨_, ?_, Nat.le_add_right _ _, Nat.le_add_right _ _⟩
      rw [hT]
      obtain ⟨d1, d2⟩ := div_pow (h - 1) (2 ^ 128 + 2 ^ 64 * mid - (2 ^ 64 * m2 + l2)) s (by omega)
      unfold unr
      rw [d1, d2, if_neg (by omega)]
      have hq := Nat.div_add_mod h (2 ^ s)
      have hm := Nat.mod_lt h hs
      have : (h - 1) / 2 ^ s = h / 2 ^ s := by
        rw [Nat.div_eq_iff hs]
        rw [Nat.mul_comm] at hq
        have hne' : 0 < h % 2 ^ s := Nat.pos_of_ne_zero hne
        generalize h / 2 ^ s * 2 ^ s = Q at *
        omega
      rw [this]
  · next hne =>
    have hne : h % 2 ^ s = 0 := by omega
    split
    · next hlt =>
      by_cases h0 : h = 0
      · subst h0; omega
      have hT : (2 ^ 64 * h + mid) * 2 ^ 64 - (2 ^ 64 * m2 + l2) = 2 ^ 128 * (h - 1) + (2 ^ 128 + 2 ^ 64 * mid - (2 ^ 64 * m2 + l2)) := by omega
      refine ⟨_, ?_, Nat.le_add_right _ _, Nat.le_add_right _ _⟩
      rw [hT]
      obtain ⟨d1, d2⟩ := div_pow (h - 1) (2 ^ 128 + 2 ^ 64 * mid - (2 ^ 64 * m2 + l2)) s (by omega)
      unfold unr
      rw [d1, d2, if_neg (by omega)]
    · next hge =>
      split
      · next hgt =>
        have hT : (2 ^ 64 * h + mid) * 2 ^ 64 - (2 ^ 64 * m2 + l2) = 2 ^ 128 * h + (2 ^ 64 * mid - (2 ^ 64 * m2 + l2)) := by omega
        refine ⟨_, ?_, Nat.le_add_right _ _, Nat.le_add_right _ _⟩
        rw [hT]
        obtain ⟨d1, d2⟩ := div_pow h (2 ^ 64 * mid - (2 ^ 64 * m2 + l2)) s (by omega)
        unfold unr
        rw [d1, d2, if_neg (by omega)]
      · next hle =>
        refine ⟨2 ^ 128 * h, ?_, by omega, by omega⟩
        obtain ⟨d1, d2⟩ := div_pow h 0 s (by omega)
        unfold unr
        rw [Nat.add_zero] at d1 d2
        rw [d1, d2, hne, if_pos rfl]

def lg (x : Int) : Int := x * 78913 / 262144
def l2 (x : Int) : Int := x * 108853 / 32768
/-- The exponent for 2^-t times a mantissa of 64 bits. -/
def pOf (t : Nat) : Nat := (-lg (11 - (t : Int))).toNat
def sOf (t : Nat) : Nat := ((t : Int) - l2 (pOf t) - 3).toNat
def jOf (p : Nat) : Nat := 2 ^ (p + 127 - (l2 p).toNat)
def hiOf (p : Nat) : Nat := (5 ^ p * jOf p + 2 ^ 64 - 1) / 2 ^ 64
def loOf (p : Nat) : Nat := hiOf p * 2 ^ 64 - 5 ^ p * jOf p
/-- What of the table and the exponents is wanted. -/
def goodB (t : Nat) : Bool :=
  decide (hiOf (pOf t) < 2 ^ 64) && decide (loOf (pOf t) < 2 ^ 64) && decide (hiOf (pOf t) * 2 ^ 64 = loOf (pOf t) + 5 ^ pOf t * jOf (pOf t)) &&
    decide (16 ≤ pOf t) && decide (pOf t ≤ 50) && decide (2 ^ (130 + sOf t) = 2 ^ (t - pOf t) * jOf (pOf t)) && decide (sOf t < 64) &&
    decide (2 ^ 64 < 5 ^ (pOf t - 9) * jOf (pOf t)) && decide (2 ^ 11 * (5 ^ pOf t * jOf (pOf t)) + 2 ^ 65 < 10 * 2 ^ (130 + sOf t)) &&
    decide (2 ^ (130 + sOf t) ≤ 2 ^ 11 * (5 ^ pOf t * jOf (pOf t))) && decide (pOf t ≤ t)
theorem good_all : ∀ a : Fin 101, goodB (64 + a.val) = true := by decide +kernel
structure Good (t p s J hi lo : Nat) : Prop where
  h1 : hi < 2 ^ 64
  h2 : lo < 2 ^ 64
  pm : hi * 2 ^ 64 = lo + 5 ^ p * J
  p1 : 16 ≤ p
  p2 : p ≤ 50
  g : 2 ^ (130 + s) = 2 ^ (t - p) * J
  s64 : s < 64
  sep : 2 ^ 64 < 5 ^ (p - 9) * J
  wide : 2 ^ 11 * (5 ^ p * J) + 2 ^ 65 < 10 * 2 ^ (130 + s)
  one : 2 ^ (130 + s) ≤ 2 ^ 11 * (5 ^ p * J)
  pt : p ≤ t
theorem good (t : Nat) (h1 : 64 ≤ t) (h2 : t ≤ 164) : Good t (pOf t) (sOf t) (jOf (pOf t)) (hiOf (pOf t)) (loOf (pOf t)) := by
  have h := good_all ⟨t - 64, by omega⟩
  have e : 64 + (t - 64) = t := by omega
  simp only [e] at h
  unfold goodB at h
  simp only [Bool.and_eq_true, decide_eq_true_eq] at h
  obtain ⟨⟨⟨⟨⟨⟨⟨⟨⟨⟨a, b⟩, c⟩, d⟩, e⟩, f⟩, g⟩, i⟩, j⟩, k⟩, l⟩ := h
  exact ⟨a, b, c, d, e, f, g, i, j, k, l⟩

/-- What shortFloat answers at m = M * 2^11, 2^52 < M < 2^53, times 2^-t. -/
def odd (m : Nat) : Nat := m / 2 ^ 11 % 2
def dmin (m hi lo s : Nat) : Nat := (usc (m - 2 ^ 10) hi lo s + odd m + 3) / 4
def dmax (m hi lo s : Nat) : Nat := (usc (m + 2 ^ 10) hi lo s - odd m) / 4
def dmid (m hi lo s : Nat) : Nat := (usc m hi lo s + 1 + usc m hi lo s / 4 % 2) / 4
def shortF (m p hi lo s : Nat) : Nat × Nat :=
  if dmin m hi lo s ≤ dmax m hi lo s / 10 * 10 then (dmax m hi lo s / 10, p - 1)
  else if dmin m hi lo s < dmax m hi lo s then (dmid m hi lo s, p) else (dmin m hi lo s, p)
/-- n / 10^k is nearer to M / 2^t' than any other float. -/
def Short (m t n k : Nat) : Prop := (m - 2 ^ 10) * 10 ^ k < n * 2 ^ t ∧ n * 2 ^ t < (m + 2 ^ 10) * 10 ^ k
section
variable {t p s J hi lo m : Nat}
theorem usc_good (G : Good t p s J hi lo) (x : Nat) (hx : x < 2 ^ 64) : ∃ T', usc x hi lo s = unr T' (2 ^ (128 + s)) ∧ T' ≤ x * (5 ^ p * J) + 2 ^ 64 ∧ x * (5 ^ p * J) ≤ T' + 2 ^ 64 := by
  have hp : x * lo ≤ x * hi * 2 ^ 64 := by
    rw [Nat.mul_assoc]
    exact Nat.mul_le_mul_left x (by have := G.pm; omega)
  have e : x * hi * 2 ^ 64 - x * lo = x * (5 ^ p * J) := by
    rw [Nat.mul_assoc, G.pm, Nat.mul_add]
    omega
  have h := usc_spec x hi lo s hx G.h1 G.h2 hp
  rw [e] at h
  exact h

theorem g_pos : (0 : Nat) < 2 ^ (128 + s) := Nat.two_pow_pos _
theorem four_g (D : Nat) : 4 * D * 2 ^ (128 + s) = D * 2 ^ (130 + s) := by
  have : (2 : Nat) ^ (130 + s) = 4 * 2 ^ (128 + s) := by rw [show 130 + s = (128 + s) + 2 by omega, Nat.pow_add]; omega
  rw [this, Nat.mul_assoc, Nat.mul_left_comm]
theorem D_eq (G : Good t p s J hi lo) (n : Nat) : n * 10 ^ (p - 9) * 2 ^ (130 + s) = n * 2 ^ (t - 9) * (5 ^ (p - 9) * J) := by
  have h1 := G.p1
  have h2 := G.pt
  rw [G.g, show (10 : Nat) = 5 * 2 from rfl, Nat.mul_pow, show t - 9 = (t - p) + (p - 9) by omega, Nat.pow_add]
  simp only [Nat.mul_comm, Nat.mul_left_comm, Nat.mul_assoc]
theorem T_eq (G : Good t p s J hi lo) (y : Nat) : y * (5 ^ p * J) = y * 5 ^ 9 * (5 ^ (p - 9) * J) := by
  have h1 := G.p1
  rw [show (5 : Nat) ^ p = 5 ^ 9 * 5 ^ (p - 9) by rw [← Nat.pow_add]; congr 1; omega]
  simp only [Nat.mul_assoc]
theorem short9 (G : Good t p s J hi lo) (n : Nat) : Short m t n 9 ↔ (m - 2 ^ 10) * 5 ^ 9 < n * 2 ^ (t - 9) ∧ n * 2 ^ (t - 9) < (m + 2 ^ 10) * 5 ^ 9 := by
  have h1 := G.p1
  have h2 := G.pt
  unfold Short
  have e : (2 : Nat) ^ t = 2 ^ (t - 9) * 512 := by rw [show (512 : Nat) = 2 ^ 9 from rfl, ← Nat.pow_add]; congr 1; omega
  rw [e, ← Nat.mul_assoc]
  generalize n * 2 ^ (t - 9) = b
  omega
theorem min_le (G : Good t p s J hi lo) (hm : m < 2 ^ 64) {D : Nat} (h : dmin m hi lo s ≤ D) : (m - 2 ^ 10) * (5 ^ p * J) ≤ D * 2 ^ (130 + s) + 2 ^ 64 := by
  obtain ⟨T', e, h1, h2⟩ := usc_good G (m - 2 ^ 10) (by omega)
  unfold dmin at h
  rw [e] at h
  have h3 := unr_le (D := D) g_pos (show unr T' (2 ^ (128 + s)) ≤ 4 * D by unfold odd at h; omega)
  rw [four_g] at h3
  omega
theorem max_ge (G : Good t p s J hi lo) (hm : m + 2 ^ 10 < 2 ^ 64) {D : Nat} (h : D ≤ dmax m hi lo s) : D * 2 ^ (130 + s) ≤ (m + 2 ^ 10) * (5 ^ p * J) + 2 ^ 64 := by
  obtain ⟨T', e, h1, h2⟩ := usc_good G (m + 2 ^ 10) hm
  unfold dmax at h
  rw [e] at h
  have h3 := unr_ge (D := D) g_pos (show 4 * D ≤ unr T' (2 ^ (128 + s)) by unfold odd at h; omega)
  rw [four_g] at h3
  omega
theorem min_of (G : Good t p s J hi lo) (hm : m < 2 ^ 64) {D : Nat} (h : (m - 2 ^ 10) * (5 ^ p * J) + 2 ^ 64 < D * 2 ^ (130 + s)) : dmin m hi lo s ≤ D := by
  obtain ⟨T', e, h1, h2⟩ := usc_good G (m - 2 ^ 10) (by omega)
  have h3 := unr_lt (T := T') (D := D) (g := 2 ^ (128 + s)) g_pos (by rw [four_g]; omega)
  unfold dmin
  rw [e]
  unfold odd
  omega
theorem max_of (G : Good t p s J hi lo) (hm : m + 2 ^ 10 < 2 ^ 64) {D : Nat} (h : D * 2 ^ (130 + s) + 2 ^ 64 < (m + 2 ^ 10) * (5 ^ p * J)) : D ≤ dmax m hi lo s := by
  obtain ⟨T', e, h1, h2⟩ := usc_good G (m + 2 ^ 10) hm
  have h3 := unr_gt (T := T') (D := D) (g := 2 ^ (128 + s)) g_pos (by rw [four_g]; omega)
  unfold dmax
  rw [e]
  unfold odd
  omega
theorem wide (G : Good t p s J hi lo) (hm : m + 2 ^ 10 < 2 ^ 64) (hm0 : 2 ^ 10 ≤ m) {D : Nat} (h : dmin m hi lo s ≤ D) : dmax m hi lo s < D + 10 := by
  have h1 := min_le G (by omega) h
  have h2 := max_ge G hm (Nat.le_refl _)
  have h3 := G.wide
  rcases Nat.lt_or_ge (dmax m hi lo s) (D + 10) with h4 | h4
  · exact h4
  · exfalso
    have h5 : (D + 10) * 2 ^ (130 + s) ≤ dmax m hi lo s * 2 ^ (130 + s) := Nat.mul_le_mul_right _ h4
    obtain ⟨r, rfl⟩ : ∃ r, m = r + 2 ^ 10 := ⟨m - 2 ^ 10, by omega⟩
    rw [Nat.add_mul] at h5 h2
    rw [Nat.add_mul r] at h2
    rw [Nat.add_sub_cancel] at h1
    generalize 2 ^ (130 + s) = g at *
    generalize 5 ^ p * J = P at *
    generalize r * P = rP at *
    generalize D * g = Dg at *
    omega
/-- A short decimal is what is told. -/
theorem tell (G : Good t p s J hi lo) (hm : m + 2 ^ 10 < 2 ^ 64) (hm0 : 2 ^ 10 ≤ m) {n : Nat} (h : Short m t n 9) : shortF m p hi lo s = (n * 10 ^ (p - 10), p - 1) := by
  have h1 := G.p1
  have hsep := G.sep
  rw [short9 G] at h
  obtain ⟨ha, hb⟩ := h
  have e1 := D_eq G n
  have e2 := T_eq G (m - 2 ^ 10)
  have e3 := T_eq G (m + 2 ^ 10)
  have k1 : ((m - 2 ^ 10) * 5 ^ 9 + 1) * (5 ^ (p - 9) * J) ≤ n * 2 ^ (t - 9) * (5 ^ (p - 9) * J) := Nat.mul_le_mul_right _ ha
  have k2 : (n * 2 ^ (t - 9) + 1) * (5 ^ (p - 9) * J) ≤ (m + 2 ^ 10) * 5 ^ 9 * (5 ^ (p - 9) * J) := Nat.mul_le_mul_right _ hb
  rw [Nat.add_mul, Nat.one_mul] at k1 k2
  have d1 : dmin m hi lo s ≤ n * 10 ^ (p - 9) := min_of G (by omega) (by rw [e1, e2]; omega)
  have d2 : n * 10 ^ (p - 9) ≤ dmax m hi lo s := max_of G hm (by rw [e1, e3]; omega)
  have d3 := wide G hm hm0 d1
  have e10 : n * 10 ^ (p - 9) = n * 10 ^ (p - 10) * 10 := by rw [Nat.mul_assoc, ← Nat.pow_succ]; congr 2; omega
  have d4 : dmax m hi lo s / 10 = n * 10 ^ (p - 10) := by omega
  unfold shortF
  rw [d4, if_pos (by omega)]
/-- Whatever is told lies within. -/
theorem told (G : Good t p s J hi lo) (hm : m + 2 ^ 10 < 2 ^ 64) (hm0 : 2 ^ 10 ≤ m) {d q : Nat} (h : shortF m p hi lo s = (d, q)) :
    (m - 2 ^ 10) * (5 ^ p * J) ≤ d * 10 ^ (p - q) * 2 ^ (130 + s) + 2 ^ 64 ∧ d * 10 ^ (p - q) * 2 ^ (130 + s) ≤ (m + 2 ^ 10) * (5 ^ p * J) + 2 ^ 64 ∧ (q = p - 1 ∨ q = p) := by
  have h1 := G.p1
  have hone := G.one
  obtain ⟨r, rfl⟩ : ∃ r, m = r + 2 ^ 10 := ⟨m - 2 ^ 10, by omega⟩
  have er : (r + 2 ^ 10 + 2 ^ 10) * (5 ^ p * J) = r * (5 ^ p * J) + 2 ^ 11 * (5 ^ p * J) := by rw [Nat.add_assoc, Nat.add_mul]
  have er2 : (r + 2 ^ 10) * (5 ^ p * J) = r * (5 ^ p * J) + 2 ^ 10 * (5 ^ p * J) := Nat.add_mul ..
  unfold shortF at h
  split at h
  · next hc =>
    injection h with h2 h3
    subst h2 h3
    rw [show p - (p - 1) = 1 by omega, Nat.pow_one]
    exact ⟨min_le G (by omega) hc, max_ge G hm (Nat.div_mul_le_self _ _), .inl rfl⟩
  · split at h
    · next hc hlt =>
      injection h with h2 h3
      subst h2 h3
      rw [Nat.sub_self, Nat.pow_zero, Nat.mul_one]
      obtain ⟨T', e, h4, h5⟩ := usc_good G (r + 2 ^ 10) (by omega)
      have hd : dmid (r + 2 ^ 10) hi lo s = (unr T' (2 ^ (128 + s)) + 1 + unr T' (2 ^ (128 + s)) / 4 % 2) / 4 := by unfold dmid; rw [e]
      generalize dmid (r + 2 ^ 10) hi lo s = D at hd ⊢
      have u1 := unr_le2 (T := T') (g := 2 ^ (128 + s)) g_pos (A := 4 * D + 2) (by omega) (by omega)
      rw [Nat.add_mul, four_g] at u1
      have e4 : (2 : Nat) ^ (130 + s) = 4 * 2 ^ (128 + s) := by rw [show 130 + s = (128 + s) + 2 by omega, Nat.pow_add]; omega
      have u2 : D * 2 ^ (130 + s) ≤ T' + 2 * 2 ^ (128 + s) := by
        rcases Nat.eq_zero_or_pos D with h0 | h0
        · rw [h0, Nat.zero_mul]; omega
        · have u2 := unr_ge2 (T := T') (g := 2 ^ (128 + s)) g_pos (A := 4 * (D - 1) + 2) (by omega) (by omega)
          rw [Nat.add_mul, four_g] at u2
          have e5 : D * 2 ^ (130 + s) = (D - 1) * 2 ^ (130 + s) + 2 ^ (130 + s) := by
            conv => lhs; rw [show D = (D - 1) + 1 by omega]
            rw [Nat.add_mul, Nat.one_mul]
          omega
      rw [Nat.add_sub_cancel]
      rw [er] at *
      rw [er2] at h4 h5
      generalize 5 ^ p * J = P at *
      generalize r * P = rP at *
      generalize D * 2 ^ (130 + s) = Dg at *
      omega
    · next hc hlt =>
      injection h with h2 h3
      subst h2 h3
      rw [Nat.sub_self, Nat.pow_zero, Nat.mul_one]
      refine ⟨min_le G (by omega) (Nat.le_refl _), ?_, .inr rfl⟩
      obtain ⟨T', e, h4, h5⟩ := usc_good G (r + 2 ^ 10 - 2 ^ 10) (by omega)
      have hd : dmin (r + 2 ^ 10) hi lo s = (unr T' (2 ^ (128 + s)) + odd (r + 2 ^ 10) + 3) / 4 := by unfold dmin; rw [e]
      have ho : odd (r + 2 ^ 10) ≤ 1 := by unfold odd; omega
      generalize dmin (r + 2 ^ 10) hi lo s = D at hd ⊢
      rw [er]
      rw [Nat.add_sub_cancel] at h4 h5
      rcases Nat.eq_zero_or_pos D with h0 | h0
      · rw [h0, Nat.zero_mul]; omega
      · have u2 := unr_ge2 (T := T') (g := 2 ^ (128 + s)) g_pos (A := 4 * (D - 1)) (by omega) (by omega)
        rw [four_g] at u2
        have e5 : D * 2 ^ (130 + s) = (D - 1) * 2 ^ (130 + s) + 2 ^ (130 + s) := by
          conv => lhs; rw [show D = (D - 1) + 1 by omega]
          rw [Nat.add_mul, Nat.one_mul]
        generalize 5 ^ p * J = P at *
        generalize r * P = rP at *
        omega
/-- A short answer is a short decimal of the float. -/
theorem tell_back (G : Good t p s J hi lo) (ht : 64 ≤ t) {M : Nat} (hM : 2 ^ 52 ≤ M ∧ M < 2 ^ 53) {d q n : Nat} (h : shortF (M * 2 ^ 11) p hi lo s = (d, q)) (hn : d * 10 ^ (p - q) = n * 10 ^ (p - 9)) : Short (M * 2 ^ 11) t n 9 := by
  obtain ⟨h1, h2, _⟩ := told G (by omega) (by omega) h
  have hsep := G.sep
  rw [short9 G]
  rw [hn, D_eq G, T_eq G] at h1 h2
  have a1 : (M * 2 ^ 11 - 2 ^ 10) * 5 ^ 9 ≤ n * 2 ^ (t - 9) := by
    rcases Nat.lt_or_ge (n * 2 ^ (t - 9)) ((M * 2 ^ 11 - 2 ^ 10) * 5 ^ 9) with hlt | hge
    · have : (n * 2 ^ (t - 9) + 1) * (5 ^ (p - 9) * J) ≤ (M * 2 ^ 11 - 2 ^ 10) * 5 ^ 9 * (5 ^ (p - 9) * J) := Nat.mul_le_mul_right _ hlt
      rw [Nat.add_mul, Nat.one_mul] at this
      omega
    · exact hge
  have a2 : n * 2 ^ (t - 9) ≤ (M * 2 ^ 11 + 2 ^ 10) * 5 ^ 9 := by
    rcases Nat.lt_or_ge ((M * 2 ^ 11 + 2 ^ 10) * 5 ^ 9) (n * 2 ^ (t - 9)) with hlt | hge
    · have : ((M * 2 ^ 11 + 2 ^ 10) * 5 ^ 9 + 1) * (5 ^ (p - 9) * J) ≤ n * 2 ^ (t - 9) * (5 ^ (p - 9) * J) := Nat.mul_le_mul_right _ hlt
      rw [Nat.add_mul, Nat.one_mul] at this
      omega
    · exact hge
  have e : n * 2 ^ (t - 9) = n * 2 ^ (t - 20) * 2048 := by rw [Nat.mul_assoc, show (2048 : Nat) = 2 ^ 11 from rfl, ← Nat.pow_add]; congr 2; omega
  rw [e] at a1 a2 ⊢
  generalize n * 2 ^ (t - 20) = b at *
  omega
theorem short_up {m t n k : Nat} (hk : k ≤ 9) : Short m t n k ↔ Short m t (n * 10 ^ (9 - k)) 9 := by
  unfold Short
  have e : (10 : Nat) ^ 9 = 10 ^ k * 10 ^ (9 - k) := by rw [← Nat.pow_add]; congr 1; omega
  have hp : (0 : Nat) < 10 ^ (9 - k) := Nat.pow_pos (by omega)
  rw [e, ← Nat.mul_assoc, ← Nat.mul_assoc, Nat.mul_right_comm n]
  rw [Nat.mul_lt_mul_right hp, Nat.mul_lt_mul_right hp]
/-- Two short decimals of one float are one number. -/
theorem short_one {m t a b : Nat} (ht : 64 ≤ t) (hm0 : 2 ^ 10 ≤ m) (h : Short m t a 9) (h' : Short m t b 9) : a = b := by
  have key : ∀ a b : Nat, Short m t a 9 → Short m t b 9 → ¬ a < b := by
    intro a b h h' hlt
    unfold Short at h h'
    have h1 : (a + 1) * 2 ^ t ≤ b * 2 ^ t := Nat.mul_le_mul_right _ hlt
    have h2 : (2 : Nat) ^ 64 ≤ 2 ^ t := Nat.pow_le_pow_right (by omega) ht
    rw [Nat.add_mul] at h1
    obtain ⟨r, rfl⟩ : ∃ r, m = r + 2 ^ 10 := ⟨m - 2 ^ 10, by omega⟩
    omega
  have h1 := key a b h h'
  have h2 := key b a h' h
  omega
end
end Go.Proofs.YtckjffhimofikaaDoor.FF
