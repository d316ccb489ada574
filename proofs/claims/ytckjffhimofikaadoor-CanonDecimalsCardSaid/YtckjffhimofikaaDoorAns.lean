/- What is told of a float from 0 to 1, and which decimals hit it. -/
import Derived.Test.YtckjffhimofikaaDoorNear
import Derived.Test.YtckjffhimofikaaDoorJ
import Derived.Test.YtckjffhimofikaaDoorE
namespace Go.Proofs.YtckjffhimofikaaDoor.FF
open Ieee Go.Proofs.YtckjffhimofikaaDoor.C Go.Proofs.YtckjffhimofikaaDoor.J Go.Proofs.YtckjffhimofikaaDoor.D
set_option linter.unusedVariables false
set_option linter.unusedSimpArgs false
set_option maxRecDepth 4000

/-- n / 10^k, rounded, is the float. -/
def Hit (b n k : Nat) : Prop := double.div (fl n) (fl (10 ^ k)) = some b
def Val (n k : Nat) : Prop := 1 ≤ k ∧ k ≤ 9 ∧ 0 < n ∧ n < 10 ^ k
theorem pow9 {k : Nat} (h : k ≤ 9) : (10 : Nat) ^ k ≤ 10 ^ 9 := Nat.pow_le_pow_right (by omega) h
theorem hit_pow {t n k : Nat} (ht : 64 ≤ t ∧ t ≤ 164) (hv : Val n k) (h : Hit ((1085 - t) * 2 ^ 52 + 2 ^ 52) n k) : Short (2 ^ 52 * 2 ^ 11) t n k := by
  obtain ⟨hk1, hk2, hn, hn'⟩ := hv
  have hc9 := pow9 hk2
  have hc0 : (0 : Nat) < 10 ^ k := Nat.pow_pos (by omega)
  have hc53 : (10 : Nat) ^ k < 2 ^ 53 := by omega
  have hn53 : n < 2 ^ 53 := by omega
  have la : n.log2 ≤ 29 := by have := (Nat.log2_lt (Nat.pos_iff_ne_zero.1 hn)).2 (show n < 2 ^ 30 by omega); omega
  have lb : (10 ^ k).log2 ≤ 29 := by have := (Nat.log2_lt (Nat.pos_iff_ne_zero.1 hc0)).2 (show 10 ^ k < 2 ^ 30 by omega); omega
  have hmid : ∀ A, A % 2 = 1 → A * 10 ^ k ≠ n * 2 ^ (t - 10) := fun A hA => no_mid (M := 0) ht.1 ⟨hk1, hk2⟩ A hA
  unfold Hit at h
  rw [div_fl hn hn53 hc0 hc53] at h
  obtain ⟨dr, hdr, hlog⟩ := qmag_log hn hn53 hc0 hc53
  rw [nearest_norm hlog (by omega) (by omega)] at h
  have hkept := kept_in hlog
  obtain ⟨q1, q2, q3⟩ := fl_mag hc0 hc53
  have hB : 0 < 10 ^ k * 2 ^ (52 - (10 ^ k).log2) := by omega
  have d1 : 1 ≤ dr := by omega
  have ed : (2 : Nat) ^ (dr - 1) = 2 * 2 ^ (dr - 2) := by rw [← Nat.pow_succ']; congr 1; omega
  have scale : ∀ A u t' : Nat, u = dr - 2 + (52 - (10 ^ k).log2) → t' + dr + n.log2 = 66 + (10 ^ k).log2 → 10 ≤ t' → A * 2 ^ (dr - 2) * (10 ^ k * 2 ^ (52 - (10 ^ k).log2)) = A * 10 ^ k * 2 ^ u ∧ n * 2 ^ (52 - n.log2) * 2 ^ 54 = n * 2 ^ (t' - 10) * 2 ^ u := by
    intro A u t' hu he ht'
    constructor
    · rw [hu, Nat.pow_add]
      simp only [Nat.mul_left_comm, Nat.mul_assoc]
    · rw [Nat.mul_assoc, Nat.mul_assoc, ← Nat.pow_add, ← Nat.pow_add]
      congr 2
      omega
  have core : ∀ M t' : Nat, 0 < M → t' + dr + n.log2 = 66 + (10 ^ k).log2 → 10 ≤ t' → qmag n (10 ^ k) / 2 ^ dr + upE (qmag n (10 ^ k)) dr = M → (2 * M - 1) * 10 ^ k ≤ n * 2 ^ (t' - 10) ∧ n * 2 ^ (t' - 10) ≤ (2 * M + 1) * 10 ^ k := by
    intro M t' hM hdrt ht' hk2
    obtain ⟨b1, b2⟩ := kept_back d1 hM hk2
    rw [ed] at b1 b2
    obtain ⟨s1, s2⟩ := scale (2 * M - 1) _ t' rfl hdrt ht'
    obtain ⟨s3, _⟩ := scale (2 * M + 1) _ t' rfl hdrt ht'
    have c1 : ¬ qmag n (10 ^ k) < 2 * ((2 * M - 1) * 2 ^ (dr - 2)) := by rw [Nat.mul_left_comm]; omega
    have c2 : ¬ 2 * ((2 * M + 1) * 2 ^ (dr - 2)) < qmag n (10 ^ k) := by rw [Nat.mul_left_comm]; omega
    unfold qmag at c1 c2
    rw [sticky_lt hB, s1, s2, Nat.mul_lt_mul_right (Nat.two_pow_pos _)] at c1
    rw [sticky_gt hB, s3, s2, Nat.mul_lt_mul_right (Nat.two_pow_pos _)] at c2
    omega
  have hS := short_iff (M := 2 ^ 52) (t := t) (n := n) (c := 10 ^ k) (by omega) (by omega)
  unfold Short
  rw [hS.1, hS.2]
  have h := Option.some.inj h
  obtain ⟨E, hE⟩ : ∃ E, E = ((n.log2 : Int) - (10 ^ k).log2 - 55 + dr + 1074).toNat := ⟨_, rfl⟩
  obtain ⟨K, hK⟩ : ∃ K, K = qmag n (10 ^ k) / 2 ^ dr + upE (qmag n (10 ^ k)) dr := ⟨_, rfl⟩
  rw [← hE, ← hK] at h
  rw [← hK] at hkept
  have hcase : (E = 1085 - t ∧ K = 2 ^ 52) ∨ (E + 1 = 1085 - t ∧ K = 2 ^ 53) := by
    clear core scale hmid hS hlog ed
    omega
  rcases hcase with ⟨h1, h2⟩ | ⟨h1, h2⟩
  · obtain ⟨g1, g2⟩ := core (2 ^ 52) t (by omega) (by clear core scale hmid hS h hK; omega) (by omega) (by rw [← hK, h2])
    have m1 := hmid (2 * 2 ^ 52 - 1) (by omega)
    have m2 := hmid (2 * 2 ^ 52 + 1) (by omega)
    exact ⟨Nat.lt_of_le_of_ne g1 m1, Nat.lt_of_le_of_ne g2 (Ne.symm m2)⟩
  · obtain ⟨g1, g2⟩ := core (2 ^ 53) (t + 1) (by omega) (by clear core scale hmid hS h hK; omega) (by omega) (by rw [← hK, h2])
    have e : n * 2 ^ (t + 1 - 10) = 2 * (n * 2 ^ (t - 10)) := by rw [show t + 1 - 10 = t - 10 + 1 by omega, Nat.pow_succ]; simp only [Nat.mul_comm, Nat.mul_left_comm]
    rw [e] at g1 g2
    generalize n * 2 ^ (t - 10) = X at *
    generalize 10 ^ k = c at *
    clear core scale hmid hS h hK hE hlog ed
    omega

/-! ### The digits -/
theorem ndig_eq {d a : Nat} (h : d < 2 ^ 64) (h0 : 0 < d) (h1 : 10 ^ a ≤ d) (h2 : d < 10 ^ (a + 1)) : ndig d = a + 1 := by
  obtain ⟨g1, g2, g3⟩ := ndig_in h0 h
  have k1 := (Nat.pow_lt_pow_iff_right (a := 10) (by omega)).1 (Nat.lt_of_le_of_lt g2 h2)
  have k2 := (Nat.pow_lt_pow_iff_right (a := 10) (by omega)).1 (Nat.lt_of_le_of_lt h1 g3)
  omega
theorem nz_strip {n a j : Nat} (hn : n % 10 ≠ 0) (ha : 1 ≤ a) : ∀ m, m ≤ j → nzR (n * 10 ^ j) (a + j) (a + m) = a
  | 0, _ => by
    refine nz_stop (by omega) ?_
    rw [show a + j - (a + 0) = j by omega, Nat.mul_div_cancel _ (Nat.pow_pos (by omega))]
    exact hn
  | m + 1, hm => by
    rw [nz_go (by omega) ?_]
    · rw [show a + (m + 1) - 1 = a + m by omega]
      exact nz_strip hn ha m (by omega)
    · have e : n * 10 ^ j = n * 10 ^ (m + 1) * 10 ^ (j - (m + 1)) := by rw [Nat.mul_assoc, ← Nat.pow_add]; congr 2; omega
      rw [show a + j - (a + (m + 1)) = j - (m + 1) by omega, e, Nat.mul_div_cancel _ (Nat.pow_pos (by omega)), Nat.pow_succ, ← Nat.mul_assoc]
      exact Nat.mul_mod_left _ _
/-- What is left of a number whose last k - r digits are noughts. -/
theorem nz_zeros (d nd : Nat) : ∀ k, k ≤ nd → 10 ^ (nd - k) ∣ d → 10 ^ (nd - nzR d nd k) ∣ d
  | 0, _, h => by unfold nzR; exact h
  | k + 1, hk, h => by
    unfold nzR
    split
    · next h0 =>
      refine nz_zeros d nd k (by omega) ?_
      obtain ⟨c, hc⟩ := h
      rw [hc, Nat.mul_div_cancel_left _ (Nat.pow_pos (by omega))] at h0
      obtain ⟨c2, hc2⟩ : ∃ c2, c = 10 * c2 := ⟨c / 10, by omega⟩
      refine ⟨c2, ?_⟩
      rw [hc, hc2, ← Nat.mul_assoc, ← Nat.pow_succ]
      congr 2
      omega
    · exact h
/-- The text's bytes, of a short one: its digits with noughts ahead. -/
theorem text_short {n k d q : Nat} (hk : 1 ≤ k) (hkq : k ≤ q) (hn : 0 < n) (hn2 : n < 10 ^ k) (hn3 : n % 10 ≠ 0) (hd : d = n * 10 ^ (q - k)) (hd64 : d < 2 ^ 64) :
    ndig d ≤ q ∧ nzR d (ndig d) (ndig d) + (q - ndig d) = k ∧
    List.replicate (q - ndig d) (48 : Int) ++ (List.range (nzR d (ndig d) (ndig d))).map (fun i => ((48 + d / 10 ^ (ndig d - 1 - i) % 10 : Nat) : Int)) = (List.range k).map (fun i => ((48 + n / 10 ^ (k - 1 - i) % 10 : Nat) : Int)) := by
  have hp : 0 < 10 ^ (q - k) := Nat.pow_pos (by omega)
  have hn64 : n < 2 ^ 64 := Nat.lt_of_le_of_lt (by rw [hd]; exact Nat.le_mul_of_pos_right _ hp) hd64
  obtain ⟨a1, a2, a3⟩ := ndig_in hn hn64
  obtain ⟨a, ha⟩ : ∃ a, ndig n = a + 1 := ⟨ndig n - 1, by omega⟩
  rw [ha, Nat.add_sub_cancel] at a2
  rw [ha] at a3
  have hak : a + 1 ≤ k := by
    have := (Nat.pow_lt_pow_iff_right (a := 10) (by omega)).1 (Nat.lt_of_le_of_lt a2 hn2)
    omega
  have hdn : ndig d = a + 1 + (q - k) := by
    have := ndig_eq (a := a + (q - k)) hd64 (by rw [hd]; exact Nat.mul_pos hn hp) (by rw [hd, Nat.pow_add]; exact Nat.mul_le_mul_right _ a2) (by
      rw [hd, show a + (q - k) + 1 = a + 1 + (q - k) by omega, Nat.pow_add]; exact Nat.mul_lt_mul_of_pos_right a3 hp)
    omega
  have hnz : nzR d (ndig d) (ndig d) = a + 1 := by
    rw [hdn, hd]
    exact nz_strip hn3 (by omega) (q - k) (Nat.le_refl _)
  rw [hnz, hdn]
  refine ⟨by omega, by omega, ?_⟩
  have e1 : q - (a + 1 + (q - k)) = k - (a + 1) := by omega
  rw [e1]
  apply List.ext_getElem
  · simp; omega
  · intro i h1 h2
    simp only [List.length_append, List.length_replicate, List.length_map, List.length_range] at h1 h2
    rcases Nat.lt_or_ge i (k - (a + 1)) with h3 | h3
    · rw [List.getElem_append_left (by simpa using h3)]
      simp only [List.getElem_replicate, List.getElem_map, List.getElem_range]
      have : n / 10 ^ (k - 1 - i) = 0 := Nat.div_eq_of_lt (Nat.lt_of_lt_of_le a3 (Nat.pow_le_pow_right (by omega) (by omega)))
      rw [this]
      rfl
    · rw [List.getElem_append_right (by simpa using h3)]
      simp only [List.length_replicate, List.getElem_map, List.getElem_range]
      have e2 : a + 1 + (q - k) - 1 - (i - (k - (a + 1))) = (k - 1 - i) + (q - k) := by omega
      rw [e2, hd, Nat.pow_add, Nat.mul_div_mul_right _ _ hp]
end Go.Proofs.YtckjffhimofikaaDoor.FF
