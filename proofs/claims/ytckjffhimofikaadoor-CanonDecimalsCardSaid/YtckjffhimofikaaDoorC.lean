/- FormatFloat: the scaling constants; how many digits. -/
import Derived.Test.YtckjffhimofikaaDoorKBase
namespace Go.Proofs.YtckjffhimofikaaDoor.C
open Go.RowKit Go.Proofs.YtckjffhimofikaaDoorW.PrintWords Go.Proofs.YtckjffhimofikaaDoor.A Go.Proofs.YtckjffhimofikaaDoor.B Go.Proofs.YtckjffhimofikaaDoor.FF Go.Proofs.YtckjffhimofikaaDoor.KBase Go.Proofs.YtckjffhimofikaaDoorW.PrintLast Go.Proofs.YtckjffhimofikaaDoorW.PrintMore
set_option linter.unusedSimpArgs false
set_option linter.unusedVariables false

/-- The tables that FormatFloat reads. -/
structure Tabs (H L : Nat → Nat) (w : World) : Prop where
  hi : ∀ i, i < 696 → w.cell? ⟨2, i * 2, none⟩ = some (.int .u64 (H i : Nat))
  lo : ∀ i, i < 696 → w.cell? ⟨2, i * 2 + 1, none⟩ = some (.int .u64 (L i : Nat))
  ten : ∀ i, i < 20 → w.cell? ⟨1, i, none⟩ = some (.int .u64 ((10 ^ i : Nat) : Int))
  size : 3 ≤ w.heap.size
  big : ∀ i, 2 ^ 63 ≤ H i ∧ H i < 2 ^ 64 ∧ L i < 2 ^ 64
theorem Tabs.below {H L : Nat → Nat} {w w' : World} (h : Tabs H L w) (hb : Below w.heap.size w w') : Tabs H L w' :=
  ⟨fun i hi => pw_cell_below hb (h.hi i hi), fun i hi => pw_cell_below hb (h.lo i hi), fun i hi => pw_cell_below hb (h.ten i hi), Nat.le_trans h.size hb.size, h.big⟩

set_option maxRecDepth 100000 in
set_option maxHeartbeats 1000000 in
theorem prescale_calls {H L : Nat → Nat} (g p : Nat) (e lp : Int) (v0 v1 v2 : Value) (w : World) (hT : Tabs H L w) (hp : p ≤ 347) (hg : 3 ≤ g)
    (c : Stays w g #[v0, v1, v2] 62) (he : -4000 ≤ e) (he2 : e ≤ 4000) (hl : -4000 ≤ lp) (hl2 : lp ≤ 4000) :
    Calls Tryd.prog 33 #[.pointer (some ⟨g, 0, none⟩), .int .i64 e, .int .i64 (p : Nat), .int .i64 lp] w fun e' w' => (∃ v, e' = .returned v) ∧ Stays w' g #[.int .u64 (H (p + 348) : Nat), .int .u64 (L (p + 348) : Nat), .int .i64 (-(e + lp + 3))] 62 ∧ Below g w w' := by
  have t1 := hT.hi (p + 348) (by omega)
  have t2 := hT.lo (p + 348) (by omega)
  have e1 : ((p : Int) + 348).toNat = p + 348 := by omega
  have c0 := c.cell 0
  have f0 := blk_frozen c 0
  simp only [List.getElem?_toArray, List.getElem?_cons_zero, List.getElem?_cons_succ] at c0
  have C := Aside0.mk c
  have n2 : ¬ (2 = g) := by omega
  clear c hT
  go_enter Tryd.func33, Tryd.ntmps33
  go_upto_region 1 with fail
  clear c0 f0 t1
  have c1 := stays_set C.out 0 (.int .u64 (H (p + 348) : Nat))
  have b1 : Below g w (w.setCell ⟨g, 0, none⟩ (.int .u64 (H (p + 348) : Nat))) := (Below.refl g w).setCell (show g ≤ (⟨g, 0, none⟩ : Addr).block from Nat.le_refl _) _
  have t3 : (w.setCell ⟨g, 0, none⟩ (.int .u64 (H (p + 348) : Nat))).cell? ⟨2, (p + 348) * 2 + 1, none⟩ = some (.int .u64 (L (p + 348) : Nat)) := by
    rw [← t2]; exact b1.cell (p := ⟨2, (p + 348) * 2 + 1, none⟩) (show 2 < g by omega)
  simp only [List.setIfInBounds_toArray, List.set_cons_zero, List.set_cons_succ] at c1
  generalize w.setCell ⟨g, 0, none⟩ (.int .u64 (H (p + 348) : Nat)) = W1 at *
  have C1 := Aside0.mk c1
  have B1 := Aside0.mk b1
  have c0 := c1.cell 1
  have f0 := blk_frozen c1 1
  simp only [List.getElem?_toArray, List.getElem?_cons_zero, List.getElem?_cons_succ] at c0
  clear c1 b1 t2 C
  go_upto_region 2 with fail
  clear c0 f0 t3
  have c1 := stays_set C1.out 1 (.int .u64 (L (p + 348) : Nat))
  have b1 : Below g w (W1.setCell ⟨g, 1, none⟩ (.int .u64 (L (p + 348) : Nat))) := B1.out.setCell (show g ≤ (⟨g, 1, none⟩ : Addr).block from Nat.le_refl _) _
  simp only [List.setIfInBounds_toArray, List.set_cons_zero, List.set_cons_succ] at c1
  generalize W1.setCell ⟨g, 1, none⟩ (.int .u64 (L (p + 348) : Nat)) = W2 at *
  have C2 := Aside0.mk c1
  have B2 := Aside0.mk b1
  have c0 := c1.cell 2
  have f0 := blk_frozen c1 2
  simp only [List.getElem?_toArray, List.getElem?_cons_zero, List.getElem?_cons_succ] at c0
  clear c1 b1 C1 B1
  go_wp2
  have c1 := stays_set C2.out 2 (.int .i64 (-(e + lp + 3)))
  simp only [List.setIfInBounds_toArray, List.set_cons_zero, List.set_cons_succ] at c1
  have b1 := B2.out.setCell (show g ≤ (⟨g, 2, none⟩ : Addr).block from Nat.le_refl _) (.int .i64 (-(e + lp + 3)))
  refine bodyPost_end (results_none rfl _ _ _) rfl ⟨⟨_, rfl⟩, c1, b1⟩
theorem bitLen_in : ∀ x : Nat, 0 < x → x < 2 ^ 64 → 2 ^ (Lib.bitLen x - 1) ≤ x ∧ x < 2 ^ Lib.bitLen x := by
  intro x
  induction x using Nat.strongRecOn with
  | _ x ih =>
    intro h0 h
    rw [Lib.bitLen_half x (by omega) h]
    rcases Nat.lt_or_ge x 2 with h2 | h2
    · obtain rfl : x = 1 := by omega
      decide
    · obtain ⟨h3, h4⟩ := ih (x / 2) (by omega) (by omega) (by omega)
      have hb : 1 ≤ Lib.bitLen (x / 2) := by
        rcases Nat.eq_zero_or_pos (Lib.bitLen (x / 2)) with e | e
        · rw [e] at h4; simp at h4; omega
        · exact e
      obtain ⟨m, hm⟩ : ∃ m, Lib.bitLen (x / 2) = m + 1 := ⟨Lib.bitLen (x / 2) - 1, by omega⟩
      rw [hm] at h3 h4 ⊢
      rw [Nat.add_sub_cancel] at h3
      rw [show 1 + (m + 1) - 1 = m + 1 by omega, show 1 + (m + 1) = m + 1 + 1 by omega]
      rw [Nat.pow_succ] at h4 ⊢
      rw [Nat.pow_succ]
      omega
theorem bitLen_le {x : Nat} (h : x < 2 ^ 64) : Lib.bitLen x ≤ 64 := by
  rcases Nat.eq_zero_or_pos x with e | e
  · subst e; decide
  · have := (bitLen_in x e h).1
    have h2 : 2 ^ (Lib.bitLen x - 1) < 2 ^ 64 := by omega
    have := (Nat.pow_lt_pow_iff_right (a := 2) (by omega)).1 h2
    omega
/-- How many digits a number has. -/
def ndig (d : Nat) : Nat := Lib.bitLen d * 78913 / 262144 + if 10 ^ (Lib.bitLen d * 78913 / 262144) ≤ d then 1 else 0
theorem lg_all : ∀ b : Fin 65, 10 ^ (b.val * 78913 / 262144) ≤ 2 ^ b.val ∧ 2 ^ b.val ≤ 10 ^ (b.val * 78913 / 262144 + 1) ∧ (1 ≤ b.val * 78913 / 262144 → 10 ^ (b.val * 78913 / 262144 - 1) ≤ 2 ^ (b.val - 1)) := by decide +kernel
theorem ndig_in {d : Nat} (h0 : 0 < d) (h : d < 2 ^ 64) : 1 ≤ ndig d ∧ 10 ^ (ndig d - 1) ≤ d ∧ d < 10 ^ ndig d := by
  obtain ⟨h1, h2⟩ := bitLen_in d h0 h
  obtain ⟨k1, k2, k3⟩ := lg_all ⟨Lib.bitLen d, by have := bitLen_le h; omega⟩
  simp only [] at k1 k2 k3
  unfold ndig
  generalize Lib.bitLen d * 78913 / 262144 = e at *
  split
  · next hc => exact ⟨by omega, by rw [Nat.add_sub_cancel]; exact hc, by omega⟩
  · next hc =>
    have he : 1 ≤ e := by
      rcases Nat.eq_zero_or_pos e with h3 | h3
      · subst h3; rw [Nat.pow_zero] at hc; omega
      · exact h3
    refine ⟨by omega, ?_, by rw [Nat.add_zero]; omega⟩
    have := k3 he
    rw [Nat.add_zero]
    omega
theorem ndig_le {d : Nat} (h : d < 2 ^ 64) : ndig d ≤ 20 := by
  have := bitLen_le h
  unfold ndig
  split <;> omega
set_option maxRecDepth 100000 in
theorem digits_calls {H L : Nat → Nat} (d : Nat) (w : World) (hT : Tabs H L w) (hd : d < 2 ^ 64) :
    Calls Tryd.prog 22 #[.int .u64 (d : Nat)] w fun e w' => e = .returned (.int .i64 (ndig d : Nat)) ∧ w = w' := by
  have hb := bitLen_le hd
  have M1 := Aside0.mk (lenN_calls d w hd)
  unfold ndig
  obtain ⟨b, hbe⟩ : ∃ b, b = Lib.bitLen d := ⟨_, rfl⟩
  rw [← hbe] at M1 hb ⊢
  obtain ⟨e, he⟩ : ∃ e, e = b * 78913 / 262144 := ⟨_, rfl⟩
  have M2 := Aside0.mk (show Calls Tryd.prog 23 #[.int .i64 (b : Nat)] w fun e' w' => e' = .returned (.int .i64 (e : Nat)) ∧ w = w' from (lg10_calls b w (by omega) (by omega)).mono fun _ _ ⟨h1, h2⟩ => ⟨by rw [h1, he]; rfl, h2⟩)
  rw [← he]
  have t := hT.ten e (by omega)
  have he20 : e ≤ 19 := by omega
  obtain ⟨T, hTT⟩ : ∃ T, T = 10 ^ e := ⟨_, rfl⟩
  rw [← hTT] at t ⊢
  clear hbe he hT hTT
  by_cases hc : T ≤ d
  · have c1 : decide (T ≤ d) = true := decide_eq_true hc
    rw [if_pos hc]
    clear hc
    go_enter Tryd.func22, Tryd.ntmps22
    go_wp2_with (first
      | (go_at_call 19; (with_reducible refine M1.out.mono ?_); rintro e' w' ⟨rfl, rfl⟩)
      | (go_at_call 23; (with_reducible refine M2.out.mono ?_); rintro e' w' ⟨rfl, rfl⟩)
      | (go_at_call 41; refine (boolI_calls _ _).mono ?_; rintro e' w' ⟨rfl, rfl⟩))
    go_ret
    exact ⟨rfl, rfl⟩
  · have c1 : decide (T ≤ d) = false := decide_eq_false hc
    rw [if_neg hc]
    clear hc
    go_enter Tryd.func22, Tryd.ntmps22
    go_wp2_with (first
      | (go_at_call 19; (with_reducible refine M1.out.mono ?_); rintro e' w' ⟨rfl, rfl⟩)
      | (go_at_call 23; (with_reducible refine M2.out.mono ?_); rintro e' w' ⟨rfl, rfl⟩)
      | (go_at_call 41; refine (boolI_calls _ _).mono ?_; rintro e' w' ⟨rfl, rfl⟩))
    go_ret
    exact ⟨rfl, rfl⟩
end Go.Proofs.YtckjffhimofikaaDoor.C
