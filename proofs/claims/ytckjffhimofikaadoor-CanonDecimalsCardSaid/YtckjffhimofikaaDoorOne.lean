/- What canon.Number tells of any float between 0 and 1; two decimals of one float are one number. -/
import Derived.Test.YtckjffhimofikaaDoorY
namespace Go.Proofs.YtckjffhimofikaaDoor.One
open Ieee Go.RowKit Go.Proofs.YtckjffhimofikaaDoorF Go.Proofs.YtckjffhimofikaaDoorW.PrintWords Go.Proofs.YtckjffhimofikaaDoor.A Go.Proofs.YtckjffhimofikaaDoor.C Go.Proofs.YtckjffhimofikaaDoor.FF Go.Proofs.YtckjffhimofikaaDoor.KBase Go.Proofs.YtckjffhimofikaaDoor.J Go.Proofs.YtckjffhimofikaaDoor.U Go.Proofs.YtckjffhimofikaaDoor.W Go.Proofs.YtckjffhimofikaaDoor.Y Go.Proofs.YtckjffhimofikaaDoorW.PrintLast Go.Proofs.YtckjffhimofikaaDoorW.PrintMore
set_option linter.unusedSimpArgs false
set_option linter.unusedVariables false
set_option maxRecDepth 4000

theorem hit_lt_one {n k b : Nat} (hv : Val n k) (h : Hit b n k) : b < 4607182418800017408 := by
  obtain ⟨hk1, hk2, hn, hn'⟩ := hv
  have hc9 := pow9 hk2
  have hc0 : (0 : Nat) < 10 ^ k := Nat.pow_pos (by omega)
  have hc53 : (10 : Nat) ^ k < 2 ^ 53 := by omega
  have hn53 : n < 2 ^ 53 := by omega
  have la : n.log2 ≤ (10 ^ k).log2 := by
    have := (Nat.log2_lt (Nat.pos_iff_ne_zero.1 hn)).2 (show n < 2 ^ ((10 ^ k).log2 + 1) from Nat.lt_trans hn' (log2_in (by omega) rfl).2)
    omega
  have lb : (10 ^ k).log2 ≤ 29 := by have := (Nat.log2_lt (Nat.pos_iff_ne_zero.1 hc0)).2 (show 10 ^ k < 2 ^ 30 by omega); omega
  unfold Hit at h
  rw [div_fl hn hn53 hc0 hc53] at h
  obtain ⟨dr, hdr, hlog⟩ := qmag_log hn hn53 hc0 hc53
  rw [nearest_norm hlog (by omega) (by omega)] at h
  have hkept := kept_in hlog
  obtain ⟨q1, q2, q3⟩ := fl_mag hc0 hc53
  have hB : 0 < 10 ^ k * 2 ^ (52 - (10 ^ k).log2) := by omega
  have d1 : 1 ≤ dr := by omega
  have ed : (2 : Nat) ^ (dr - 1) = 2 * 2 ^ (dr - 2) := by rw [← Nat.pow_succ']; congr 1; omega
  have scale : ∀ A u t' : Nat, u = dr - 2 + (52 - (10 ^ k).log2) → t' + dr + n.log2 = 66 + (10 ^ k).log2 → 10 ≤ t' → A * 2 ^ (dr - 2) * (10 ^ k * 2 ^ (52 - (10 ^ k).log2)) = A * 10 ^ k * 2 ^ u ∧ n * 2 ^ (52 - n.log2) * 2 ^ 54 = n * 2 ^ (t' - 10) * 2 ^ u := by
    intro A u t' hu he ht'
    constructor
    · rw [hu, Nat.pow_add]
      simp only [Nat.mul_left_comm, Nat.mul_assoc]
    · rw [Nat.mul_assoc, Nat.mul_assoc, ← Nat.pow_add, ← Nat.pow_add]
      congr 2
      omega
  have core : ∀ M t' : Nat, 0 < M → t' + dr + n.log2 = 66 + (10 ^ k).log2 → 10 ≤ t' → qmag n (10 ^ k) / 2 ^ dr + upE (qmag n (10 ^ k)) dr = M → (2 * M - 1) * 10 ^ k ≤ n * 2 ^ (t' - 10) := by
    intro M t' hM hdrt ht' hk2
    obtain ⟨b1, _⟩ := kept_back d1 hM hk2
    rw [ed] at b1
    obtain ⟨s1, s2⟩ := scale (2 * M - 1) _ t' rfl hdrt ht'
    have c1 : ¬ qmag n (10 ^ k) < 2 * ((2 * M - 1) * 2 ^ (dr - 2)) := by rw [Nat.mul_left_comm]; omega
    unfold qmag at c1
    rw [sticky_lt hB, s1, s2, Nat.mul_lt_mul_right (Nat.two_pow_pos _)] at c1
    omega
  have h := Option.some.inj h
  obtain ⟨E, hE⟩ : ∃ E, E = ((n.log2 : Int) - (10 ^ k).log2 - 55 + dr + 1074).toNat := ⟨_, rfl⟩
  obtain ⟨K, hK⟩ : ∃ K, K = qmag n (10 ^ k) / 2 ^ dr + upE (qmag n (10 ^ k)) dr := ⟨_, rfl⟩
  rw [← hE, ← hK] at h
  rw [← hK] at hkept
  refine Nat.lt_of_not_le fun hge => ?_
  have hcase : (E = 1021 ∧ K = 2 ^ 53) ∨ (E = 1022 ∧ 2 ^ 52 ≤ K) := by
    clear core scale hlog ed
    omega
  rcases hcase with ⟨h1, h2⟩ | ⟨h1, h2⟩
  · have g1 := core (2 ^ 53) 64 (by omega) (by clear core scale h hK; omega) (by omega) (by rw [← hK, h2])
    generalize 10 ^ k = c at *
    clear core scale hK hE hlog ed h
    omega
  · have g1 := core K 63 (by omega) (by clear core scale h hK; omega) (by omega) hK.symm
    have g2 : (2 * 2 ^ 52 - 1) * 10 ^ k ≤ (2 * K - 1) * 10 ^ k := Nat.mul_le_mul_right _ (by omega)
    have g3 := Nat.le_trans g2 g1
    generalize 10 ^ k = c at *
    clear core scale hK hE hlog ed h g1 g2
    omega
theorem hit_one {b n k n' k' : Nat} (hv : Val n k) (h : Hit b n k) (hv' : Val n' k') (h' : Hit b n' k') : n * 10 ^ (9 - k) = n' * 10 ^ (9 - k') := by
  have h1 := hit_lt_one hv h
  have h2 := (hit_tiny hv.2.2.1 hv.2.2.2 ⟨hv.1, hv.2.1⟩ h).1
  obtain ⟨M, t, hM1, hM2, ht, e⟩ : ∃ M t : Nat, 2 ^ 52 ≤ M ∧ M < 2 ^ 53 ∧ (64 ≤ t ∧ t ≤ 164) ∧ b = (1085 - t) * 2 ^ 52 + M := by
    refine ⟨2 ^ 52 + b % 2 ^ 52, 1086 - b / 2 ^ 52, by omega, by omega, by omega, by omega⟩
  subst e
  have all : ∀ a j, Val a j → Hit ((1085 - t) * 2 ^ 52 + M) a j → Short (M * 2 ^ 11) t (a * 10 ^ (9 - j)) 9 := by
    intro a j hv hh
    refine (short_up hv.2.1).1 ?_
    rcases Nat.eq_or_lt_of_le hM1 with hM | hM
    · subst hM
      exact hit_pow ht hv hh
    · exact (hit ⟨hM, hM2⟩ ht hv.2.2.1 hv.2.2.2 ⟨hv.1, hv.2.1⟩).1 hh
  exact short_one ht.1 (by omega) (all n k hv h) (all n' k' hv' h')

/-- canon.Number of any float between 0 and 1. -/
theorem num_all {b : Nat} {w : World} (hE : Env w) (hb0 : 0 < b) (hb1 : b < 4607182418800017408) :
    (∃ n k, Val n k ∧ n % 10 ≠ 0 ∧ Says b n k ∧ Calls Tryd.prog 6 #[.float .f64 b] w fun e w' => e = .returned (.tuple #[.string (strOfNums (48 :: 46 :: low n k)), .bool true]) ∧ Below w.heap.size w w') ∨
    ((∀ n k, Val n k → ¬ Hit b n k) ∧ Calls Tryd.prog 6 #[.float .f64 b] w fun e w' => e = .returned (.tuple #[.string W.e0, .bool false]) ∧ Below w.heap.size w w') := by
  have f1 : flt_ge b 0 = true := by
    have e1 : FloatKind.f64.format.order b 0 = some (compare b 0) := order_pos (by omega) (by decide)
    unfold flt_ge
    rw [e1, cg hb0]; rfl
  have f2 : flt_le b 4607182418800017408 = true := by
    have e1 : FloatKind.f64.format.order b 4607182418800017408 = some (compare b 4607182418800017408) := order_pos (by omega) (by decide)
    unfold flt_le
    rw [e1, cl hb1]; rfl
  obtain ⟨H0, L0, hO0, hT0⟩ := hE
  obtain ⟨d, q, hA, hTold⟩ := told_all hO0 hT0.big hb0 hb1
  have hF : Calls Tryd.prog 9 #[.float .f64 b, .int .u8 102, .int .i64 (-1), .int .i64 64] w fun e w' => e = .returned (.string (strOfNums (txt d q))) ∧ Below w.heap.size w w' :=
    S.format_calls b (txt d q) w (fun v W hb' hR => hTold w.heap.size v W hb'.size hR (fun W' hb'' => hT0.below (hb'.trans hb'')))
  have hlen : (txt d q).length = 2 + (nzD d + (q - ndig d)) := by unfold txt; simp; omega
  have hnz := nz_le d (ndig d) (ndig d)
  have hnd := ndig_le hA.d64
  have hq4 := hA.q4
  rcases hA.say with ⟨n, k, hv, h3, hkq, hd, hS⟩ | ⟨hlong, hno⟩
  · left
    have ht := txt_short hv hkq h3 hd hA.d64
    rw [ht] at hF
    have hk9 := hv.2.1
    have hll : (low n k).length = k := by simp [low]
    have hN := number_of f1 f2 (by simp [hll]; omega) hF
    rw [if_neg (by
      intro h
      rcases h with h | h
      · exact absurd h (by decide)
      · simp [hll] at h; omega)] at hN
    exact ⟨n, k, hv, h3, hS, hN⟩
  · right
    have ht : ∃ l, txt d q = 48 :: l := ⟨_, rfl⟩
    obtain ⟨l, hl⟩ := ht
    rw [hl] at hF hlen
    simp only [List.length_cons] at hlen
    have hN := number_of f1 f2 (by unfold nzD at hlen; omega) hF
    rw [if_pos (.inr (by omega))] at hN
    exact ⟨hno, hN⟩
/-- A decimal's own float has a number: that decimal, its noughts at the end left out. -/
theorem num_hit {b N D : Nat} {w : World} (hE : Env w) (hv : Val N D) (h : Hit b N D) :
    ∃ n k, 1 ≤ k ∧ k ≤ D ∧ n % 10 ≠ 0 ∧ n < 10 ^ k ∧ N = n * 10 ^ (D - k) ∧ Calls Tryd.prog 6 #[.float .f64 b] w fun e w' => e = .returned (.tuple #[.string (strOfNums (48 :: 46 :: low n k)), .bool true]) ∧ Below w.heap.size w w' := by
  have h1 := hit_lt_one hv h
  have h2 := (hit_tiny hv.2.2.1 hv.2.2.2 ⟨hv.1, hv.2.1⟩ h).1
  rcases num_all hE (by omega) h1 with ⟨n, k, hv', h3, hS, hN⟩ | ⟨hno, _⟩
  · have hk := (hS.2.1 N D hv h).1
    have e := hit_one hv h hv' hS.1
    have hD := hv.2.1
    have e2 : (10 : Nat) ^ (9 - k) = 10 ^ (D - k) * 10 ^ (9 - D) := by rw [← Nat.pow_add]; congr 1; omega
    rw [e2, ← Nat.mul_assoc] at e
    exact ⟨n, k, hv'.1, hk, h3, hv'.2.2.2, Nat.eq_of_mul_eq_mul_right (Nat.pow_pos (by omega)) e, hN⟩
  · exact absurd h (hno N D hv)
set_option maxRecDepth 100000 in
/-- gatehouselaw05.CanonNames. -/
theorem names_calls (w : World) (hE : Env w) : Calls Tryd.prog 3 #[] w fun e w' => e = .returned (.bool true) ∧ Below w.heap.size w w' := by
  obtain ⟨n, k, k1, k2, h3, h4, h5, h6⟩ := num_hit (b := 4602678819172646912) (N := 5) (D := 1) hE (by unfold Val; omega) (by unfold Hit; decide +kernel)
  obtain rfl : k = 1 := by omega
  obtain rfl : n = 5 := by simp at h5; omega
  have e : strOfNums (48 :: 46 :: low 5 1) = ⟨#[48, 46, 53]⟩ := by decide +kernel
  rw [e] at h6
  have H6 := Aside0.mk h6
  clear h6 h5 h4 h3
  go_enter Tryd.func3, Tryd.ntmps3
  go_wp2_with (go_at_call 6; (with_reducible refine H6.out.mono ?_); rintro e' W1 ⟨rfl, hb⟩; have HB1 := Aside0.mk hb; clear hb)
  go_ret
  exact ⟨rfl, HB1.out⟩
end Go.Proofs.YtckjffhimofikaaDoor.One
