/- shortFloat, walked. -/
import Derived.Test.YtckjffhimofikaaDoorC
namespace Go.Proofs.YtckjffhimofikaaDoor.D
open Go.RowKit Go.Proofs.YtckjffhimofikaaDoorW.PrintWords Go.Proofs.YtckjffhimofikaaDoor.A Go.Proofs.YtckjffhimofikaaDoor.B Go.Proofs.YtckjffhimofikaaDoor.C Go.Proofs.YtckjffhimofikaaDoor.FF Go.Proofs.YtckjffhimofikaaDoor.KBase Go.Proofs.YtckjffhimofikaaDoorW.PrintLast Go.Proofs.YtckjffhimofikaaDoorW.PrintMore
set_option linter.unusedSimpArgs false
set_option linter.unusedVariables false

/-- What shortFloat answers, out of its bounds. -/
def sfG (m mn mx od p hi lo s : Nat) : Nat × Nat :=
  if (usc mn hi lo s + od + 3) / 4 ≤ (usc mx hi lo s - od) / 4 / 10 * 10 then ((usc mx hi lo s - od) / 4 / 10, p - 1)
  else if (usc mn hi lo s + od + 3) / 4 < (usc mx hi lo s - od) / 4 then ((usc m hi lo s + 1 + usc m hi lo s / 4 % 2) / 4, p) else ((usc mn hi lo s + od + 3) / 4, p)
theorem or_le {a : Nat} (s : Nat) (hs : 2 ≤ s) (ha : a < 2 ^ 64) : a / 2 ^ s < 2 ^ 62 := by
  rw [Nat.div_lt_iff_lt_mul (Nat.two_pow_pos s)]
  have : (2 : Nat) ^ 2 ≤ 2 ^ s := Nat.pow_le_pow_right (by omega) hs
  omega
theorem usc_lt {x hi lo s : Nat} (hx : x < 2 ^ 64) (hhi : hi < 2 ^ 64) (hs : 2 ≤ s) : usc x hi lo s < 2 ^ 62 := by
  have hq2 : x * hi ≤ (2 ^ 64 - 1) * (2 ^ 64 - 1) := Nat.mul_le_mul (by omega) (by omega)
  have h1 := or_le (a := x * hi / 2 ^ 64) s hs (by omega)
  have h2 := or_le (a := x * hi / 2 ^ 64 - 1) s hs (by omega)
  unfold usc
  generalize x * hi / 2 ^ 64 / 2 ^ s = A at *
  generalize (x * hi / 2 ^ 64 - 1) / 2 ^ s = B at *
  split
  · omega
  · split
    · omega
    · split <;> omega
theorem usc_pos {x hi lo s : Nat} (hx : 2 ^ 63 ≤ x) (hhi : 2 ^ 63 ≤ hi) : 1 ≤ usc x hi lo s := by
  have h0 : 2 ^ 63 * 2 ^ 63 ≤ x * hi := Nat.mul_le_mul hx hhi
  have h1 : 0 < x * hi / 2 ^ 64 := by omega
  unfold usc
  split
  · omega
  · next hne =>
    split
    · omega
    · split
      · omega
      · have h2 : x * hi / 2 ^ 64 % 2 ^ s = 0 := by omega
        have h3 := Nat.div_add_mod (x * hi / 2 ^ 64) (2 ^ s)
        rw [h2, Nat.add_zero] at h3
        rcases Nat.eq_zero_or_pos (x * hi / 2 ^ 64 / 2 ^ s) with h4 | h4
        · rw [h4, Nat.mul_zero] at h3; omega
        · exact h4

set_option maxRecDepth 100000 in
set_option maxHeartbeats 4000000 in
theorem sf_norm {H L : Nat → Nat} (m p lp s od mn mx : Nat) (e : Int) (w : World) (hT : Tabs H L w) (hm : 2 ^ 63 ≤ m) (hm2 : m < 2 ^ 64) (hp1 : 1 ≤ p) (hp : p ≤ 347) (hlp : lp ≤ 4000) (hs : -(e + (lp : Int) + 3) = (s : Int)) (hs2 : 2 ≤ s) (hs3 : s < 64) (hod : od ≤ 1) (he : -1200 ≤ e) (he2 : e ≤ -63) (hmn2 : mn < 2 ^ 64) (hmx1 : 2 ^ 63 ≤ mx) (hmx2 : mx < 2 ^ 64)
    (hl2 : (p : Int) * 108853 / 32768 = (lp : Int)) (hmn : mn = m - 1024) (hmx : mx = m + 1024) (hodd : od = m / 2048 % 2) (hne : m ≠ 2 ^ 63) (he3 : -1085 ≤ e) (hlg : (e + 11) * 78913 / 262144 = -(p : Int)) :
    Calls Tryd.prog 28 #[.int .u64 (m : Nat), .int .i64 e] w fun e' w' => e' = .returned (.tuple #[.int .u64 ((sfG m mn mx od p (H (p + 348)) (L (p + 348)) s).1 : Nat), .int .i64 (-((sfG m mn mx od p (H (p + 348)) (L (p + 348)) s).2 : Nat))]) ∧ Below w.heap.size w w' := by
  obtain ⟨bh0, bh1, bl⟩ := hT.big (p + 348)
  have u1l := usc_lt (x := mn) (lo := L (p + 348)) hmn2 bh1 hs2
  have u2l := usc_lt (x := mx) (lo := L (p + 348)) hmx2 bh1 hs2
  have u3l := usc_lt (x := m) (lo := L (p + 348)) hm2 bh1 hs2
  have u2p := usc_pos (x := mx) (lo := L (p + 348)) (s := s) hmx1 bh0
  have U : ∀ x : Nat, x < 2 ^ 64 → ∀ W g, Stays W g #[.int .u64 (H (p + 348) : Nat), .int .u64 (L (p + 348) : Nat), .int .i64 (s : Int)] 62 → Calls Tryd.prog 35 #[.int .u64 (x : Nat), .pointer (some ⟨g, 0, none⟩)] W fun e' w' => e' = .returned (.int .u64 (usc x (H (p + 348)) (L (p + 348)) s : Nat)) ∧ Below W.heap.size W w' := fun x hx W g hg =>
    (uscale_calls x (H (p + 348)) (L (p + 348)) s g W hx bh1 (by omega) bl hs3 (by rw [hg.cell 0]; rfl) (by rw [hg.cell 1]; rfl) (by rw [hg.cell 2]; rfl)).mono fun e' w' ⟨h1, n, h2⟩ => ⟨h1, by rw [h2]; exact pw_below_drewN (Below.refl _ _) n⟩
  unfold sfG
  obtain ⟨u1, hu1⟩ : ∃ u, u = usc mn (H (p + 348)) (L (p + 348)) s := ⟨_, rfl⟩
  obtain ⟨u2, hu2⟩ : ∃ u, u = usc mx (H (p + 348)) (L (p + 348)) s := ⟨_, rfl⟩
  obtain ⟨u3, hu3⟩ : ∃ u, u = usc m (H (p + 348)) (L (p + 348)) s := ⟨_, rfl⟩
  have U1 := Aside0.mk (U mn hmn2)
  have U2 := Aside0.mk (U mx hmx2)
  have U3 := Aside0.mk (U m hm2)
  rw [← hu1] at U1 u1l
  rw [← hu2] at U2 u2l u2p
  rw [← hu3] at U3 u3l
  rw [← hu1, ← hu2, ← hu3]
  obtain ⟨a1, ha1⟩ : ∃ a, a = u1 + od := ⟨_, rfl⟩
  obtain ⟨a2, ha2⟩ : ∃ a, a = u2 - od := ⟨_, rfl⟩
  obtain ⟨dm, hdm⟩ : ∃ d, d = (u1 + od + 3) / 4 := ⟨_, rfl⟩
  obtain ⟨dx, hdx⟩ : ∃ d, d = (u2 - od) / 4 := ⟨_, rfl⟩
  obtain ⟨dd, hdd⟩ : ∃ d, d = (u3 + 1 + u3 / 4 % 2) / 4 := ⟨_, rfl⟩
  obtain ⟨dt, hdt⟩ : ∃ d, d = dx / 10 := ⟨_, rfl⟩
  rw [← hdm, ← hdx, ← hdd, ← hdt]
  obtain ⟨r, hr⟩ : ∃ r : Nat × Nat, r = (if dm ≤ dt * 10 then (dt, p - 1) else if dm < dx then (dd, p) else (dm, p)) := ⟨_, rfl⟩
  rw [← hr]
  have HR := Aside0.mk hr
  have N1 := Aside0.mk (fun W => show Calls Tryd.prog 36 #[.int .u64 (u1 : Nat), .int .i64 (od : Nat)] W fun e' w' => e' = .returned (.int .u64 (a1 : Nat)) ∧ W = w' from (nudge_calls u1 od W (by omega) (by omega) (by omega) (by omega) (by omega) (by omega)).mono fun _ _ ⟨h1, h2⟩ => ⟨by rw [h1, ha1]; rfl, h2⟩)
  have N2 := Aside0.mk (fun W => show Calls Tryd.prog 36 #[.int .u64 (u2 : Nat), .int .i64 (-(od : Int))] W fun e' w' => e' = .returned (.int .u64 (a2 : Nat)) ∧ W = w' from (nudge_calls u2 (-(od : Int)) W (by omega) (by omega) (by omega) (by omega) (by omega) (by omega)).mono fun _ _ ⟨h1, h2⟩ => ⟨by rw [h1, ha2]; first | rfl | (congr 2; omega), h2⟩)
  have C1 := Aside0.mk (fun W => show Calls Tryd.prog 37 #[.int .u64 (a1 : Nat)] W fun e' w' => e' = .returned (.int .u64 (dm : Nat)) ∧ W = w' from (ceil_calls a1 W (by omega) (by omega)).mono fun _ _ ⟨h1, h2⟩ => ⟨by rw [h1, hdm, ha1]; first | rfl | (congr 2; omega), h2⟩)
  have C2 := Aside0.mk (fun W => show Calls Tryd.prog 38 #[.int .u64 (a2 : Nat)] W fun e' w' => e' = .returned (.int .u64 (dx : Nat)) ∧ W = w' from (floor_calls a2 W (by omega) (by omega)).mono fun _ _ ⟨h1, h2⟩ => ⟨by rw [h1, hdx, ha2]; first | rfl | (congr 2; omega), h2⟩)
  have C3 := Aside0.mk (fun W => show Calls Tryd.prog 39 #[.int .u64 (u3 : Int)] W fun e' w' => e' = .returned (.int .u64 (dd : Nat)) ∧ W = w' from (round_calls u3 W (by omega) (by omega)).mono fun _ _ ⟨h1, h2⟩ => ⟨by rw [h1, hdd]; first | rfl | (congr 2; omega), h2⟩)
  have L2 := Aside0.mk (fun W => show Calls Tryd.prog 34 #[.int .i64 (p : Int)] W fun e' w' => e' = .returned (.int .i64 (lp : Nat)) ∧ W = w' from (lg2_calls p W (by omega) (by omega)).mono fun _ _ ⟨h1, h2⟩ => ⟨by rw [h1, hl2], h2⟩)
  have LG := Aside0.mk (fun W => show Calls Tryd.prog 23 #[.int .i64 (e + 11)] W fun e' w' => e' = .returned (.int .i64 (-(p : Int))) ∧ W = w' from (lg10_calls (e + 11) W (by omega) (by omega)).mono fun _ _ ⟨h1, h2⟩ => ⟨by rw [h1, hlg], h2⟩)
  have t1 : ((m : Int) == 9223372036854775808) = false := by simp; omega
  have f1 : (m : Int) - 1024 = (mn : Nat) := by omega
  have f2 : (m : Int) + 1024 = (mx : Nat) := by omega
  have f3 := i64_and1 ((m : Int) / 2048) (by omega) (by omega)
  have f4 : (m : Int) / 2048 % 2 = (od : Nat) := by omega
  clear hmn hmx hodd hne hlg
  have PS := Aside0.mk (fun (W : World) (g : Nat) (hb : Below w.heap.size w W) (h3 : w.heap.size ≤ g) (c : Stays W g #[.int .u64 0, .int .u64 0, .int .i64 0] 62) => show Calls Tryd.prog 33 #[.pointer (some ⟨g, 0, none⟩), .int .i64 e, .int .i64 (p : Nat), .int .i64 (lp : Nat)] W fun e' w' => (∃ v, e' = .returned v) ∧ Stays w' g #[.int .u64 (H (p + 348) : Nat), .int .u64 (L (p + 348) : Nat), .int .i64 (s : Int)] 62 ∧ Below g W w' from by
    have := prescale_calls g p e lp _ _ _ W (hT.below hb) hp (Nat.le_trans hT.size h3) c (by omega) (by omega) (by omega) (by omega)
    rw [hs] at this
    exact this)
  have hdtb : dt * 10 ≤ dx := by omega
  have hdxb : dx < 2 ^ 60 := by omega
  have hdtd : (dx : Int) / 10 = (dt : Int) := by omega
  clear U hu1 hu2 hu3 hdm hdx hdd hdt ha1 ha2 hr u1l u2l u3l u2p bl bh0 bh1 hl2 hs hT
  go_enter Tryd.func28, Tryd.ntmps28
  go_upto_region 28 with (go_at_call 23; (with_reducible refine (LG.out _).mono ?_); rintro e' w' ⟨rfl, rfl⟩)
  have hst : Stays (w.alloc (.cells #[.int .u64 0, .int .u64 0, .int .i64 0] 62)) w.heap.size #[.int .u64 0, .int .u64 0, .int .i64 0] 62 := heap_alloc_new w _
  have hb0 := below_alloc (Below.refl w.heap.size w) (.cells #[.int .u64 0, .int .u64 0, .int .i64 0] 62)
  generalize w.alloc (.cells #[.int .u64 0, .int .u64 0, .int .i64 0] 62) = W0 at hst hb0 ⊢
  obtain ⟨g, hg⟩ : ∃ g, g = w.heap.size := ⟨_, rfl⟩
  have HG := Aside0.mk hg
  rw [← hg] at hst ⊢
  have HS := Aside0.mk hst
  have HB := Aside0.mk hb0
  clear hst hb0 hg
  go_upto_region 29 with (first
    | (go_at_call 34; (with_reducible refine (L2.out _).mono ?_); rintro e' w' ⟨rfl, rfl⟩)
    | (go_at_call 33; (with_reducible refine (PS.out _ _ HB.out (by rw [HG.out]; exact Nat.le_refl _) HS.out).mono ?_); rintro e' W1 ⟨⟨v, rfl⟩, hst, hb⟩; have HS1 := Aside0.mk hst; have HB1 := Aside0.mk (show Below w.heap.size w W1 from (by rw [← HG.out] at *; exact HB.out.trans hb)); clear hst hb))
  go_upto_region 31 with (first
    | (go_at_call 35; (with_reducible refine (U1.out _ _ HS1.out).mono ?_); rintro e' W2 ⟨rfl, hb⟩; have HS2 := Aside0.mk (HS1.out.below hb); have HB2 := Aside0.mk (below_then HB1.out HB1.out.size hb); clear hb)
    | (go_at_call 35; (with_reducible refine (U2.out _ _ HS2.out).mono ?_); rintro e' W3 ⟨rfl, hb⟩; have HS3 := Aside0.mk (HS2.out.below hb); have HB3 := Aside0.mk (below_then HB2.out HB2.out.size hb); clear hb)
    | (go_at_call 36; first | ((with_reducible refine (N1.out _).mono ?_); rintro e' w' ⟨rfl, rfl⟩) | ((with_reducible refine (N2.out _).mono ?_); rintro e' w' ⟨rfl, rfl⟩))
    | (go_at_call 37; (with_reducible refine (C1.out _).mono ?_); rintro e' w' ⟨rfl, rfl⟩)
    | (go_at_call 38; (with_reducible refine (C2.out _).mono ?_); rintro e' w' ⟨rfl, rfl⟩))
  by_cases k1 : dm ≤ dt * 10
  · have K1 := Aside0.mk k1
    have k2 : decide ((dm : Int) ≤ (dt : Int) * 10) = true := decide_eq_true (by omega)
    have k3 : -((p : Int) - 1) = -((p - 1 : Nat) : Int) := by omega
    clear k1
    go_wp2
    go_ret2
    exact ⟨by rw [HR.out, if_pos K1.out]; rfl, HB3.out⟩
  · have K1 := Aside0.mk k1
    have k2 : decide ((dm : Int) ≤ (dt : Int) * 10) = false := decide_eq_false (by omega)
    by_cases k3 : dm < dx
    · have K3 := Aside0.mk k3
      have k4 : decide (dm < dx) = true := decide_eq_true k3
      have k5 : decide ((dm : Int) < dx) = true := decide_eq_true (by omega)
      clear k1 k3
      go_wp2_with (first
        | (go_at_call 35; (with_reducible refine (U3.out _ _ HS3.out).mono ?_); rintro e' W4 ⟨rfl, hb⟩; have HB4 := Aside0.mk (below_then HB3.out HB3.out.size hb); clear hb)
        | (go_at_call 39; (with_reducible refine (C3.out _).mono ?_); rintro e' w' ⟨rfl, rfl⟩))
      go_ret2
      exact ⟨by rw [HR.out, if_neg K1.out, if_pos K3.out]; rfl, HB4.out⟩
    · have K3 := Aside0.mk k3
      have k4 : decide (dm < dx) = false := decide_eq_false k3
      have k5 : decide ((dm : Int) < dx) = false := decide_eq_false (by omega)
      clear k1 k3
      go_wp2
      go_ret2
      exact ⟨by rw [HR.out, if_neg K1.out, if_neg K3.out]; rfl, HB3.out⟩
end Go.Proofs.YtckjffhimofikaaDoor.D
