/- ftoa64 of every float between 0 and 1: walked. -/
import Derived.Test.YtckjffhimofikaaDoorU
namespace Go.Proofs.YtckjffhimofikaaDoor.U
open Go.RowKit Go.Proofs.YtckjffhimofikaaDoorW.PrintWords Go.Proofs.YtckjffhimofikaaDoor.A Go.Proofs.YtckjffhimofikaaDoor.C Go.Proofs.YtckjffhimofikaaDoor.D Go.Proofs.YtckjffhimofikaaDoor.FF Go.Proofs.YtckjffhimofikaaDoor.J Go.Proofs.YtckjffhimofikaaDoor.P Go.Proofs.YtckjffhimofikaaDoorW.PrintLast Go.Proofs.YtckjffhimofikaaDoorW.PrintMore
set_option linter.unusedSimpArgs false
set_option linter.unusedVariables false
set_option maxRecDepth 4000

theorem bl_eq {M k : Nat} (h1 : 2 ^ k ≤ M) (h2 : M < 2 ^ (k + 1)) (h : M < 2 ^ 64) : Lib.bitLen M = k + 1 := by
  have hp := Nat.two_pow_pos k
  obtain ⟨g1, g2⟩ := bitLen_in M (by omega) h
  have k1 := (Nat.pow_lt_pow_iff_right (a := 2) (by omega)).1 (Nat.lt_of_le_of_lt g1 h2)
  have k2 := (Nat.pow_lt_pow_iff_right (a := 2) (by omega)).1 (Nat.lt_of_le_of_lt h1 g2)
  omega
/-- The table says what FFNum reckons. -/
def TabOk (H L : Nat → Nat) : Prop := ∀ p, 16 ≤ p → p ≤ 50 → H (p + 348) = hiOf p ∧ L (p + 348) = loOf p
/-- The text's bytes. -/
def txt (d q : Nat) : List Int := [48, 46] ++ List.replicate (q - ndig d) 48 ++ (List.range (nzD d)).map (fun i => ((48 + d / 10 ^ (ndig d - 1 - i) % 10 : Nat) : Int))
def Told (H L : Nat → Nat) (b d q : Nat) : Prop := ∀ (base : Nat) (v : Value) (w : World), base ≤ w.heap.size → Kd.R (Kd.int .u8) 5 w base (fun _ => True) v [] → (∀ W, Below base w W → Tabs H L W) →
  Calls Tryd.prog 13 #[v, .float .f64 b, .int .u8 102, .int .i64 (-1)] w fun e w' => ∃ v', e = .returned v' ∧ Kd.R (Kd.int .u8) 5 w' base (fun _ => True) v' (txt d q) ∧ Below base w w'
theorem of_norm {H L : Nat → Nat} {ex fr d q : Nat} (hx1 : 1 ≤ ex) (hx2 : ex ≤ 1022) (hf : fr < 2 ^ 52) (hA : Ans (ex * 2 ^ 52 + fr) d q)
    (hSF : ∀ W, Tabs H L W → Calls Tryd.prog 28 #[.int .u64 (((fr + 2 ^ 52) * 2 ^ 11 : Nat) : Int), .int .i64 ((ex : Int) - 1086)] W fun e' w' => e' = .returned (.tuple #[.int .u64 (d : Nat), .int .i64 (-(q : Int))]) ∧ Below W.heap.size W w') : Told H L (ex * 2 ^ 52 + fr) d q := by
  intro base v w hb hR hT
  exact ftoa_norm ex fr (fr + 2 ^ 52) ((fr + 2 ^ 52) * 2 ^ 11) d q (nzD d) (q - ndig d) base v w hx1 (by omega) hf rfl rfl hA.d64 hA.q4 rfl (by have := hA.fit; omega) hA.pos hb hA.dd hR (fun W h => ⟨H, L, hT W h⟩) (bl_eq (k := 52) (by omega) (by omega) (by omega)) (fun W h => hSF W (hT W h))
theorem told_norm {H L : Nat → Nat} (hH : TabOk H L) (hbig : ∀ i, 2 ^ 63 ≤ H i ∧ H i < 2 ^ 64 ∧ L i < 2 ^ 64) {ex fr : Nat} (hx1 : 1 ≤ ex) (hx2 : ex ≤ 1022) (hf : fr < 2 ^ 52) : ∃ d q, Ans (ex * 2 ^ 52 + fr) d q ∧ Told H L (ex * 2 ^ 52 + fr) d q := by
  obtain ⟨t, ht⟩ : ∃ t, t + ex = 1086 := ⟨1086 - ex, by omega⟩
  obtain ⟨M, hM⟩ : ∃ M, M = fr + 2 ^ 52 := ⟨_, rfl⟩
  have hm1 : 2 ^ 52 * 2 ^ 11 ≤ M * 2 ^ 11 := Nat.mul_le_mul_right _ (by omega)
  have hm2 : M * 2 ^ 11 ≤ (2 ^ 53 - 1) * 2 ^ 11 := Nat.mul_le_mul_right _ (by omega)
  obtain ⟨m, hm⟩ : ∃ m, m = M * 2 ^ 11 := ⟨_, rfl⟩
  rw [← hm] at hm1 hm2
  have hb : ex * 2 ^ 52 + fr = (1085 - t) * 2 ^ 52 + M := by omega
  by_cases hpow : m = 2 ^ 63 ∧ t < 1085
  · -- a power of two
    obtain ⟨hp0, ht2⟩ := hpow
    have hM52 : M = 2 ^ 52 := by omega
    obtain ⟨r1, r2, r3, r4, r5, r6, r7, r8, r9⟩ := sk t (by omega) (by omega) (by omega)
    obtain ⟨dq', hdq'⟩ : ∃ x, x = sfG m (m - 512) (m + 1024) 0 (pS t) (H (pS t + 348)) (L (pS t + 348)) (sS t) := ⟨_, rfl⟩
    obtain ⟨k1, k2⟩ := sfG_lt (m := m) (mn := m - 512) (mx := m + 1024) (od := 0) (p := pS t) (hi := H (pS t + 348)) (lo := L (pS t + 348)) (s := sS t) (by omega) (by omega) (by omega) (hbig _).2.1 r4 (by omega)
    rw [← hdq'] at k1 k2
    have hA : Ans (ex * 2 ^ 52 + fr) dq'.1 dq'.2 := by
      rcases Nat.lt_or_ge 164 t with h | h
      · have : 47 ≤ pS t := by omega
        exact ans_tiny (by omega) k1 (by omega) (by omega)
      · obtain ⟨a1, a2, a3⟩ := ans_pow (t := t) ⟨by omega, h⟩
        have e : dq' = dq t := by rw [hdq', (hH _ a2 a3).1, (hH _ a2 a3).2, hp0]; rfl
        rw [e, hb, hM52]
        exact a1
    refine ⟨dq'.1, dq'.2, hA, of_norm hx1 hx2 hf hA (fun W hT => ?_)⟩
    have := sf_pow m (pS t) (l2 (pS t)).toNat (sS t) 0 (m - 512) (m + 1024) ((ex : Int) - 1086) W hT (by omega) (by omega) r8 r7 r5 (by omega) r4 r6 (by omega) (by omega) (by omega) (by omega) (by omega) (by omega) r2 rfl rfl (by rw [hp0]) hp0 (by omega) (by rw [show (ex : Int) - 1086 + 11 = 11 - (t : Int) by omega]; exact r1)
    rw [← hdq'] at this
    rw [← hM, ← hm]
    exact this
  · obtain ⟨r1, r2, r3, r4, r5, r6, r7, r8, r9⟩ := reg t (by omega) (by omega)
    obtain ⟨dq', hdq'⟩ : ∃ x, x = sfG m (m - 1024) (m + 1024) (m / 2048 % 2) (pOf t) (H (pOf t + 348)) (L (pOf t + 348)) (sOf t) := ⟨_, rfl⟩
    obtain ⟨k1, k2⟩ := sfG_lt (m := m) (mn := m - 1024) (mx := m + 1024) (od := m / 2048 % 2) (p := pOf t) (hi := H (pOf t + 348)) (lo := L (pOf t + 348)) (s := sOf t) (by omega) (by omega) (by omega) (hbig _).2.1 r4 (by omega)
    rw [← hdq'] at k1 k2
    have hA : Ans (ex * 2 ^ 52 + fr) dq'.1 dq'.2 := by
      rcases Nat.lt_or_ge 164 t with h | h
      · have : 47 ≤ pOf t := by omega
        exact ans_tiny (by omega) k1 (by omega) (by omega)
      · have G := good t (by omega) h
        have e : dq' = shortF (M * 2 ^ 11) (pOf t) (hiOf (pOf t)) (loOf (pOf t)) (sOf t) := by rw [hdq', (hH _ G.p1 G.p2).1, (hH _ G.p1 G.p2).2, hm]; rfl
        rw [hb]
        exact ans_reg G ⟨by omega, h⟩ ⟨by omega, by omega⟩ e.symm k1
    refine ⟨dq'.1, dq'.2, hA, of_norm hx1 hx2 hf hA (fun W hT => ?_)⟩
    rw [← hM, ← hm]
    by_cases hne : m = 2 ^ 63
    · have := sf_least m (pOf t) (l2 (pOf t)).toNat (sOf t) (m / 2048 % 2) (m - 1024) (m + 1024) ((ex : Int) - 1086) W hT (by omega) (by omega) r8 r7 r5 (by omega) r4 r6 (by omega) (by omega) (by omega) (by omega) (by omega) (by omega) r2 rfl rfl rfl hne (by omega) (by omega) (by rw [show (ex : Int) - 1086 + 11 = 11 - (t : Int) by omega]; exact r1)
      rw [← hdq'] at this
      exact this
    · have := sf_norm m (pOf t) (l2 (pOf t)).toNat (sOf t) (m / 2048 % 2) (m - 1024) (m + 1024) ((ex : Int) - 1086) W hT (by omega) (by omega) r8 r7 r5 (by omega) r4 r6 (by omega) (by omega) (by omega) (by omega) (by omega) (by omega) r2 rfl rfl rfl hne (by omega) (by rw [show (ex : Int) - 1086 + 11 = 11 - (t : Int) by omega]; exact r1)
      rw [← hdq'] at this
      exact this
theorem told_den {H L : Nat → Nat} (hbig : ∀ i, 2 ^ 63 ≤ H i ∧ H i < 2 ^ 64 ∧ L i < 2 ^ 64) {M : Nat} (hM0 : 0 < M) (hM : M < 2 ^ 52) : ∃ d q, Ans M d q ∧ Told H L M d q := by
  obtain ⟨g1, g2⟩ := bitLen_in M hM0 (by omega)
  have hbl1 : 1 ≤ Lib.bitLen M := by
    rcases Nat.eq_zero_or_pos (Lib.bitLen M) with h0 | h0
    · rw [h0] at g2; simp at g2; omega
    · exact h0
  have hbl2 : Lib.bitLen M ≤ 52 := by
    have := (Nat.pow_lt_pow_iff_right (a := 2) (by omega)).1 (Nat.lt_of_le_of_lt g1 hM)
    omega
  obtain ⟨s, hs⟩ : ∃ s, Lib.bitLen M + s = 64 := ⟨64 - Lib.bitLen M, by omega⟩
  obtain ⟨m, hm⟩ : ∃ m, m = M * 2 ^ s := ⟨_, rfl⟩
  obtain ⟨u, hu⟩ : ∃ u, u = 2 ^ (s - 1) := ⟨_, rfl⟩
  have hup : 0 < u := by rw [hu]; exact Nat.two_pow_pos _
  have hsu : (2 : Nat) ^ s = 2 * u := by rw [hu, ← Nat.pow_succ']; congr 1; omega
  have hm63 : 2 ^ 63 ≤ m := by
    have e : (2 : Nat) ^ 63 = 2 ^ (Lib.bitLen M - 1) * 2 ^ s := by rw [← Nat.pow_add]; congr 1; omega
    rw [e, hm]; exact Nat.mul_le_mul_right _ g1
  have hm64 : m + 2 ^ s ≤ 2 ^ 64 := by
    have e : (2 : Nat) ^ 64 = 2 ^ Lib.bitLen M * 2 ^ s := by rw [← Nat.pow_add]; congr 1; omega
    rw [e, hm, ← Nat.succ_mul]; exact Nat.mul_le_mul_right _ g2
  rw [hsu] at hm64
  obtain ⟨od, hod⟩ : ∃ od, od = m / 2 ^ s % 2 := ⟨_, rfl⟩
  obtain ⟨sc, hsc⟩ : ∃ sc : Nat, sc + 5 = s := ⟨s - 5, by omega⟩
  obtain ⟨dq', hdq'⟩ : ∃ x, x = sfG m (m - u) (m + u) od 324 (H (324 + 348)) (L (324 + 348)) sc := ⟨_, rfl⟩
  obtain ⟨k1, k2⟩ := sfG_lt (m := m) (mn := m - u) (mx := m + u) (od := od) (p := 324) (hi := H (324 + 348)) (lo := L (324 + 348)) (s := sc) (by omega) (by omega) (by omega) (hbig _).2.1 (by omega) (by omega)
  rw [← hdq'] at k1 k2
  have hA : Ans M dq'.1 dq'.2 := ans_tiny (by omega) k1 (by omega) (by omega)
  refine ⟨dq'.1, dq'.2, hA, fun base v w hb hR hT => ?_⟩
  refine ftoa_den M m dq'.1 dq'.2 (nzD dq'.1) (dq'.2 - ndig dq'.1) s base v w hM0 hM hs hm (by omega) hA.d64 hA.q4 rfl (by have := hA.fit; omega) hA.pos hb hA.dd hR (fun W h => ⟨H, L, hT W h⟩) (fun W h => ?_)
  by_cases hne : m = 2 ^ 63
  · have := sf_denp m 324 1076 sc od (m - u) (m + u) (-1074 - (s : Int)) W (hT W h) (by omega) (by omega) (by omega) (by omega) (by omega) (by omega) (by omega) (by omega) (by omega) (by omega) (by omega) (by omega) (by omega) (by omega) (by decide) s (by omega) (by rw [hu]) (by rw [hu]) hod hne (by omega) (by omega) rfl
    rw [← hdq'] at this
    exact this
  · have := sf_den m 324 1076 sc od (m - u) (m + u) (-1074 - (s : Int)) W (hT W h) (by omega) (by omega) (by omega) (by omega) (by omega) (by omega) (by omega) (by omega) (by omega) (by omega) (by omega) (by omega) (by omega) (by omega) (by decide) s (by omega) (by rw [hu]) (by rw [hu]) hod hne (by omega) (by omega) rfl
    rw [← hdq'] at this
    exact this
/-- Every float between 0 and 1. -/
theorem told_all {H L : Nat → Nat} (hH : TabOk H L) (hbig : ∀ i, 2 ^ 63 ≤ H i ∧ H i < 2 ^ 64 ∧ L i < 2 ^ 64) {b : Nat} (h0 : 0 < b) (h1 : b < 4607182418800017408) : ∃ d q, Ans b d q ∧ Told H L b d q := by
  rcases Nat.lt_or_ge b (2 ^ 52) with h | h
  · exact told_den hbig h0 h
  · have e : b = b / 2 ^ 52 * 2 ^ 52 + b % 2 ^ 52 := by omega
    rw [e]
    exact told_norm hH hbig (by omega) (by omega) (by omega)
theorem told_one {H L : Nat → Nat} (hH : TabOk H L) (hbig : ∀ i, 2 ^ 63 ≤ H i ∧ H i < 2 ^ 64 ∧ L i < 2 ^ 64) (base : Nat) (v : Value) (w : World) (hb : base ≤ w.heap.size) (hR : Kd.R (Kd.int .u8) 5 w base (fun _ => True) v []) (hT : ∀ W, Below base w W → Tabs H L W) :
    Calls Tryd.prog 13 #[v, .float .f64 4607182418800017408, .int .u8 102, .int .i64 (-1)] w fun e w' => ∃ v', e = .returned v' ∧ Kd.R (Kd.int .u8) 5 w' base (fun _ => True) v' [49] ∧ Below base w w' := by
  refine ftoa_one base v w hb hR (fun W h => ⟨H, L, hT W h⟩) (fun W h => ?_)
  have e : sfG (2 ^ 63) (2 ^ 63 - 512) (2 ^ 63 + 1024) 0 16 (H (16 + 348)) (L (16 + 348)) 7 = (1000000000000000, 15) := by
    rw [(hH 16 (by omega) (by omega)).1, (hH 16 (by omega) (by omega)).2]
    decide +kernel
  have := sf_pow (2 ^ 63) 16 53 7 0 (2 ^ 63 - 512) (2 ^ 63 + 1024) (-63) W (hT W h) (by omega) (by omega) (by omega) (by omega) (by omega) (by omega) (by omega) (by omega) (by omega) (by omega) (by omega) (by omega) (by omega) (by omega) (by decide) rfl rfl (by decide) rfl (by omega) (by decide)
  rw [e] at this
  exact this
end Go.Proofs.YtckjffhimofikaaDoor.U
