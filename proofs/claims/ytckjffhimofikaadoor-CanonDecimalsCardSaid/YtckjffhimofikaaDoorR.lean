/- ftoa64 at (a float below the normal ones) 'f', the shortest, walked. -/
import Derived.Test.YtckjffhimofikaaDoorQ
import Derived.Test.YtckjffhimofikaaDoorF
import Derived.Test.YtckjffhimofikaaDoorG
import Derived.Test.YtckjffhimofikaaDoorI
import Derived.Laws.Externs
namespace Go.Proofs.YtckjffhimofikaaDoor.P
open Go.RowKit Go.Proofs.YtckjffhimofikaaDoorW.PrintWords Go.Proofs.YtckjffhimofikaaDoor.A Go.Proofs.YtckjffhimofikaaDoor.B Go.Proofs.YtckjffhimofikaaDoor.C Go.Proofs.YtckjffhimofikaaDoor.FF Go.Proofs.YtckjffhimofikaaDoor.KBase Go.Proofs.YtckjffhimofikaaDoor.J Go.Proofs.YtckjffhimofikaaDoor.L Go.Proofs.YtckjffhimofikaaDoorW.PrintLast Go.Proofs.YtckjffhimofikaaDoorW.PrintMore
set_option linter.unusedSimpArgs false
set_option linter.unusedVariables false
attribute [local go_sem] max2_int min2_int max_two min_two


set_option maxRecDepth 100000 in
set_option maxHeartbeats 4000000 in
theorem ftoa_zero (neg : Bool) (base : Nat) (v : Value) (w : World) (hb : base ≤ w.heap.size) (hb1 : 1 ≤ base) (hR : Kd.R (Kd.int .u8) 5 w base (fun _ => True) v []) :
    Calls Tryd.prog 13 #[v, .float .f64 (if neg then 9223372036854775808 else 0), .int .u8 102, .int .i64 (-1)] w fun e w' => ∃ v', e = .returned v' ∧ Kd.R (Kd.int .u8) 5 w' base (fun _ => True) v' (if neg then [45, 48] else [48]) ∧ Below base w w' := by
  have FM := Aside0.mk (fun (W : World) (h : Below w.heap.size w W) => fmt_zero neg 0 base v W ⟨Kd.R_reok rfl (Kd.R_below hR h) (fun k hk => by have := Kd.R_base hR k hk; omega), fun i hi => by omega, Below.refl _ _, Nat.le_refl _, by have := h.size; omega, Nat.le_trans hb h.size⟩)
  have HB := Aside0.mk hb
  have g3 := and2047 0 (by omega) (by omega)
  have g4 := and52 0 (by omega) (by omega)
  have g5 : bits .and .u64 9223372036854775808 4503599627370495 = 0 := by rw [and52 _ (by omega) (by omega)]; rfl
  have g6 : bits .and .i64 2048 2047 = 0 := by decide
  clear hR hb hb1
  cases neg
  · have h15 : ∀ W : World, (callFunc 15 #[.float .f64 0]).run Tryd.prog W = .ok (.value (.int .u64 0)) W := bits_run 0
    simp only [Bool.false_eq_true, if_false] at FM ⊢
    go_enter Tryd.func13, Tryd.ntmps13
    go_upto_region 14 with fail
    go_quiet (fail)
    have HB1 := Aside0.mk (show Below w.heap.size w (w.drewN nq) from pw_below_drewN (Below.refl _ _) nq)
    go_wp2_with (go_at_call 18; (with_reducible refine (FM.out _ HB1.out).mono ?_); rintro e' W3 ⟨v', rfl, hS⟩; have HS3 := Aside0.mk hS; clear hS)
    go_ret
    exact ⟨_, rfl, Kd.R_mono HS3.out.row (fun _ _ => trivial), (pw_below_drewN (Below.refl _ _) nq).trans HS3.out.below⟩
  · have h15 : ∀ W : World, (callFunc 15 #[.float .f64 9223372036854775808]).run Tryd.prog W = .ok (.value (.int .u64 9223372036854775808)) W := bits_run 9223372036854775808
    simp only [if_true] at FM ⊢
    go_enter Tryd.func13, Tryd.ntmps13
    go_upto_region 14 with fail
    go_quiet (fail)
    have HB1 := Aside0.mk (show Below w.heap.size w (w.drewN nq) from pw_below_drewN (Below.refl _ _) nq)
    go_wp2_with (go_at_call 18; (with_reducible refine (FM.out _ HB1.out).mono ?_); rintro e' W3 ⟨v', rfl, hS⟩; have HS3 := Aside0.mk hS; clear hS)
    go_ret
    exact ⟨_, rfl, Kd.R_mono HS3.out.row (fun _ _ => trivial), (pw_below_drewN (Below.refl _ _) nq).trans HS3.out.below⟩

set_option maxRecDepth 100000 in
set_option maxHeartbeats 4000000 in
theorem ftoa_one (base : Nat) (v : Value) (w : World) (hb : base ≤ w.heap.size)
    (hR : Kd.R (Kd.int .u8) 5 w base (fun _ => True) v []) (hT : ∀ W, Below base w W → ∃ H L, Tabs H L W)
    (hSF : ∀ W, Below base w W → Calls Tryd.prog 28 #[.int .u64 9223372036854775808, .int .i64 (-63)] W fun e' w' => e' = .returned (.tuple #[.int .u64 1000000000000000, .int .i64 (-15)]) ∧ Below W.heap.size W w') :
    Calls Tryd.prog 13 #[v, .float .f64 4607182418800017408, .int .u8 102, .int .i64 (-1)] w fun e w' => ∃ v', e = .returned v' ∧ Kd.R (Kd.int .u8) 5 w' base (fun _ => True) v' [49] ∧ Below base w w' := by
  have h15 : ∀ W : World, (callFunc 15 #[.float .f64 4607182418800017408]).run Tryd.prog W = .ok (.value (.int .u64 4607182418800017408)) W := bits_run 4607182418800017408
  have g3 := and2047 1023 (by omega) (by omega)
  have g4 : bits .and .u64 4607182418800017408 4503599627370495 = 0 := by rw [and52 _ (by omega) (by omega)]; rfl
  have g5 : bits .or .u64 0 4503599627370496 = 4503599627370496 := or52 0 (by omega)
  have HR := Aside0.mk hR
  have HT := Aside0.mk hT
  have HSF := Aside0.mk hSF
  have HB := Aside0.mk hb
  have HL := Aside0.mk (fun W => show Calls Tryd.prog 19 #[.int .u64 4503599627370496] W fun e w' => e = .returned (.int .i64 53) ∧ W = w' from (lenN_calls 4503599627370496 W (by omega)).mono fun _ _ ⟨h1, h2⟩ => ⟨by rw [h1]; rfl, h2⟩)
  clear hR hT hSF hb
  go_enter Tryd.func13, Tryd.ntmps13
  go_upto_region 14 with fail
  go_quiet (fail)
  go_upto_region 33 with fail
  clear g3 g4 g5 h15
  have HB1 := Aside0.mk (show Below w.heap.size w (w.drewN nq) from pw_below_drewN (Below.refl _ _) nq)
  have HB1' := Aside0.mk (show Below base w (w.drewN nq) from pw_below_drewN (Below.refl _ _) nq)
  have hsz : (w.drewN nq).heap.size = w.heap.size := rfl
  have HSZ := Aside0.mk hsz
  clear hsz
  go_upto_region 34 with fail
  have hst : Stays ((w.drewN nq).alloc (.cells #[.int .u8 0, .int .u8 0, .int .u8 0, .int .u8 0, .int .u8 0, .int .u8 0, .int .u8 0, .int .u8 0, .int .u8 0, .int .u8 0, .int .u8 0, .int .u8 0, .int .u8 0, .int .u8 0, .int .u8 0, .int .u8 0, .int .u8 0, .int .u8 0, .int .u8 0, .int .u8 0, .int .u8 0, .int .u8 0, .int .u8 0, .int .u8 0, .int .u8 0, .int .u8 0, .int .u8 0, .int .u8 0, .int .u8 0, .int .u8 0, .int .u8 0, .int .u8 0] 42)) w.heap.size #[.int .u8 0, .int .u8 0, .int .u8 0, .int .u8 0, .int .u8 0, .int .u8 0, .int .u8 0, .int .u8 0, .int .u8 0, .int .u8 0, .int .u8 0, .int .u8 0, .int .u8 0, .int .u8 0, .int .u8 0, .int .u8 0, .int .u8 0, .int .u8 0, .int .u8 0, .int .u8 0, .int .u8 0, .int .u8 0, .int .u8 0, .int .u8 0, .int .u8 0, .int .u8 0, .int .u8 0, .int .u8 0, .int .u8 0, .int .u8 0, .int .u8 0, .int .u8 0] 42 := heap_alloc_new (w.drewN nq) _
  have hb0 : Below w.heap.size w ((w.drewN nq).alloc (.cells #[.int .u8 0, .int .u8 0, .int .u8 0, .int .u8 0, .int .u8 0, .int .u8 0, .int .u8 0, .int .u8 0, .int .u8 0, .int .u8 0, .int .u8 0, .int .u8 0, .int .u8 0, .int .u8 0, .int .u8 0, .int .u8 0, .int .u8 0, .int .u8 0, .int .u8 0, .int .u8 0, .int .u8 0, .int .u8 0, .int .u8 0, .int .u8 0, .int .u8 0, .int .u8 0, .int .u8 0, .int .u8 0, .int .u8 0, .int .u8 0, .int .u8 0, .int .u8 0] 42)) := below_alloc HB1.out _
  have hb1 : Below base w ((w.drewN nq).alloc (.cells #[.int .u8 0, .int .u8 0, .int .u8 0, .int .u8 0, .int .u8 0, .int .u8 0, .int .u8 0, .int .u8 0, .int .u8 0, .int .u8 0, .int .u8 0, .int .u8 0, .int .u8 0, .int .u8 0, .int .u8 0, .int .u8 0, .int .u8 0, .int .u8 0, .int .u8 0, .int .u8 0, .int .u8 0, .int .u8 0, .int .u8 0, .int .u8 0, .int .u8 0, .int .u8 0, .int .u8 0, .int .u8 0, .int .u8 0, .int .u8 0, .int .u8 0, .int .u8 0] 42)) := HB1'.out.alloc HB.out _
  obtain ⟨W0, hW0⟩ : ∃ W0, W0 = (w.drewN nq).alloc (.cells #[.int .u8 0, .int .u8 0, .int .u8 0, .int .u8 0, .int .u8 0, .int .u8 0, .int .u8 0, .int .u8 0, .int .u8 0, .int .u8 0, .int .u8 0, .int .u8 0, .int .u8 0, .int .u8 0, .int .u8 0, .int .u8 0, .int .u8 0, .int .u8 0, .int .u8 0, .int .u8 0, .int .u8 0, .int .u8 0, .int .u8 0, .int .u8 0, .int .u8 0, .int .u8 0, .int .u8 0, .int .u8 0, .int .u8 0, .int .u8 0, .int .u8 0, .int .u8 0] 42) := ⟨_, rfl⟩
  obtain ⟨g, hg⟩ : ∃ g, g = w.heap.size := ⟨_, rfl⟩
  rw [← hW0] at hst hb0 hb1 ⊢
  have HG := Aside0.mk hg
  rw [← hg] at hst ⊢
  have HS0 := Aside0.mk hst
  have HB2 := Aside0.mk hb0
  have HB3 := Aside0.mk hb1
  clear hst hb0 hb1 hW0 hg HB1 HB1' HSZ
  go_upto_region 38 with (first
    | (go_at_call 19; (with_reducible refine (HL.out _).mono ?_); rintro e' w' ⟨rfl, rfl⟩)
    | (go_at_call 28; (with_reducible refine (HSF.out _ HB3.out).mono ?_); rintro e' W1 ⟨rfl, hb⟩; have HS1 := Aside0.mk (HS0.out.below hb); have HB4 := Aside0.mk (below_then HB2.out HB2.out.size hb); have HB5 := Aside0.mk (below_then HB3.out (Nat.le_trans HB.out HB2.out.size) hb); clear hb))
  obtain ⟨H, L, hT1⟩ := HT.out _ (show Below base w W1.drew from below_drew HB5.out)
  have n1 : ndig 1000000000000000 = 16 := by decide +kernel
  have n2 : nzR 1000000000000000 16 16 = 1 := by decide +kernel
  have DG := Aside0.mk (show Calls Tryd.prog 22 #[.int .u64 1000000000000000] W1.drew fun e w' => e = .returned (.int .i64 16) ∧ W1.drew = w' from by have h := digits_calls 1000000000000000 W1.drew hT1 (by omega); rw [n1] at h; exact h)
  have SD := Aside0.mk (show Calls Tryd.prog 21 #[.slice (some ⟨g, 0, none⟩) 32 32, .int .u64 1000000000000000, .int .i64 (-15), .int .i64 16] W1.drew fun e w' => e = .returned (.tuple #[.int .i64 1, .int .i64 1]) ∧ Digs 1 1 g w' ∧ Below g W1.drew w' ∧ W1.drew.heap.size ≤ w'.heap.size from by
    have h := setDigits_calls 1000000000000000 16 g (-15) W1.drew (by omega) (by decide) (by omega) (by omega) (by omega) (by have := (Array.getElem?_eq_some_iff.1 HS1.out).1; exact this) (fun i hi => ⟨(HS1.out.cell i).trans (zeros32 i hi), blk_frozen HS1.out i⟩)
    rw [n2] at h
    exact h.mono fun e w' ⟨h1, h2, h3⟩ => ⟨h1, fun i hi => by have h4 := h2 0 (by omega); obtain rfl : i = 0 := (by omega); exact h4, h3⟩)
  clear n1 n2
  clear hT1
  refine start_ (n := 11) (S := fun w' => True) (ds := []) #[false, false, false, false, false, false, false, false, false, false, false] (by kernel_rfl) rfl rfl trivial (fun hHeld => ?_)
  refine pure_ (i := 0) (N := some 140) (v := ?_) (a' := ?_) #[true, false, false, false, false, false, false, false, false, false, false] rfl rfl (by kernel_rfl) (fun _ _ _ h => h) (Or.inl ⟨by rfl, ?_⟩) ?_ ?_
  rotate_left
  · intro w'
    go_simp
    with_reducible rfl
  rotate_left
  · simp only [Act.put, List.setIfInBounds_toArray, List.set_cons_zero, List.set_cons_succ]
    rfl
  refine pure_ (i := 1) (N := some 141) (v := ?_) (a' := ?_) #[true, true, false, false, false, false, false, false, false, false, false] rfl rfl (by kernel_rfl) (fun _ _ _ h => h) (Or.inl ⟨by rfl, ?_⟩) ?_ ?_
  rotate_left
  · intro w'
    go_simp
    with_reducible rfl
  rotate_left
  · simp only [Act.put, List.setIfInBounds_toArray, List.set_cons_zero, List.set_cons_succ]
    rfl
  refine pure_ (i := 2) (N := some 142) (v := ?_) (a' := ?_) #[true, true, true, false, false, false, false, false, false, false, false] rfl rfl (by kernel_rfl) (fun _ _ _ h => h) (Or.inl ⟨by rfl, ?_⟩) ?_ ?_
  rotate_left
  · intro w'
    go_simp
    with_reducible rfl
  rotate_left
  · simp only [Act.put, List.setIfInBounds_toArray, List.set_cons_zero, List.set_cons_succ]
    rfl
  refine pure_ (i := 3) (N := some 143) (v := ?_) (a' := ?_) #[true, true, true, true, false, false, false, false, false, false, false] rfl rfl (by kernel_rfl) (fun _ _ _ h => h) (Or.inl ⟨by rfl, ?_⟩) ?_ ?_
  rotate_left
  · intro w'
    go_simp
    with_reducible rfl
  rotate_left
  · simp only [Act.put, List.setIfInBounds_toArray, List.set_cons_zero, List.set_cons_succ]
    rfl
  refine one_ (i := 4) (N := some 144) #[true, true, true, true, true, false, false, false, false, false, false] rfl rfl (by kernel_rfl) (by decide) (fun K hK => ?_)
  refine goes_ Tryd.func22 (by kernel_rfl) rfl #[.int .u64 1000000000000000] (by rfl) rfl rfl (by (try simp only [List.map_toArray, List.map_cons, List.map_nil]); first | done | rfl) ?_
  refine (DG.out).mono ?_
  rintro e' w' ⟨rfl, rfl⟩
  refine ⟨_, rfl, ?_⟩
  refine hK.out _ _ trivial (fun hHeld => ?_)
  clear hK K
  refine norm_ (a' := ?_) ?_ ?_
  rotate_left
  · show Act.put _ (some 144) _ = _
    simp only [Act.put, List.setIfInBounds_toArray, List.set_cons_zero, List.set_cons_succ]
    rfl
  refine one_ (i := 5) (N := some 145) #[true, true, true, true, true, true, false, false, false, false, false] rfl rfl (by kernel_rfl) (by decide) (fun K hK => ?_)
  refine goes_ Tryd.func21 (by kernel_rfl) rfl #[.slice (some ⟨g, 0, none⟩) 32 32, .int .u64 1000000000000000, .int .i64 (-15), .int .i64 16] (by rfl) rfl rfl (by (try simp only [List.map_toArray, List.map_cons, List.map_nil]); first | done | rfl) ?_
  refine (SD.out).mono ?_
  rintro e' W2 ⟨rfl, hD, hbb, hss⟩
  refine ⟨_, rfl, ?_⟩
  have HD := Aside0.mk hD
  have HBB := Aside0.mk hbb
  have HSS := Aside0.mk hss
  clear hD hbb hss
  refine hK.out _ _ trivial (fun hHeld => ?_)
  clear hK K
  refine norm_ (a' := ?_) ?_ ?_
  rotate_left
  · show Act.put _ (some 145) _ = _
    simp only [Act.put, List.setIfInBounds_toArray, List.set_cons_zero, List.set_cons_succ]
    rfl
  refine pure_ (i := 6) (N := some 139) (v := ?_) (a' := ?_) #[true, true, true, true, true, true, true, false, false, false, false] rfl rfl (by kernel_rfl) (fun _ _ _ h => h) (Or.inl ⟨by rfl, ?_⟩) ?_ ?_
  rotate_left
  · intro w'
    go_simp
    with_reducible rfl
  rotate_left
  · simp only [Act.put, List.setIfInBounds_toArray, List.set_cons_zero, List.set_cons_succ]
    rfl
  refine pure_ (i := 7) (N := some 146) (v := ?_) (a' := ?_) #[true, true, true, true, true, true, true, true, false, false, false] rfl rfl (by kernel_rfl) (fun _ _ _ h => h) (Or.inl ⟨by rfl, ?_⟩) ?_ ?_
  rotate_left
  · intro w'
    go_simp
    with_reducible rfl
  rotate_left
  · simp only [Act.put, List.setIfInBounds_toArray, List.set_cons_zero, List.set_cons_succ]
    rfl
  refine pure_ (i := 8) (N := some 147) (v := ?_) (a' := ?_) #[true, true, true, true, true, true, true, true, true, false, false] rfl rfl (by kernel_rfl) (fun _ _ _ h => h) (Or.inl ⟨by rfl, ?_⟩) ?_ ?_
  rotate_left
  · intro w'
    go_simp
    with_reducible rfl
  rotate_left
  · simp only [Act.put, List.setIfInBounds_toArray, List.set_cons_zero, List.set_cons_succ]
    rfl
  refine pure_ (i := 9) (N := some 22) (v := ?_) (a' := ?_) #[true, true, true, true, true, true, true, true, true, true, false] rfl rfl (by kernel_rfl) (fun _ _ _ h => h) (Or.inl ⟨by rfl, ?_⟩) ?_ ?_
  rotate_left
  · intro w'
    go_simp
    with_reducible rfl
  rotate_left
  · simp only [Act.put, List.setIfInBounds_toArray, List.set_cons_zero, List.set_cons_succ]
    rfl
  refine pure_ (i := 10) (N := some 23) (v := ?_) (a' := ?_) #[true, true, true, true, true, true, true, true, true, true, true] rfl rfl (by kernel_rfl) (fun _ _ _ h => h) (Or.inl ⟨by rfl, ?_⟩) ?_ ?_
  rotate_left
  · intro w'
    go_simp
    with_reducible rfl
  rotate_left
  · simp only [Act.put, List.setIfInBounds_toArray, List.set_cons_zero, List.set_cons_succ]
    rfl
  refine done_ (by kernel_rfl) ?_
  clear hHeld DG SD
  go_upto_region 48 with fail
  have B12 : Below w.heap.size w W2 := (below_drew HB4.out).trans (by have := HBB.out; rw [HG.out] at this; exact this)
  have B13 : Below base w W2 := (below_drew HB5.out).trans (by have := HBB.out; exact this.mono (by rw [HG.out]; exact HB.out))
  have hgs : g < W2.heap.size := Nat.lt_of_lt_of_le (Array.getElem?_eq_some_iff.1 HS1.out).1 HSS.out
  have hbs : base ≤ W2.heap.size := Nat.le_trans (by have h1 := HB.out; have h2 := HG.out; omega : base ≤ g) (Nat.le_of_lt hgs)
  have FM := Aside0.mk (fmt_one g base v W2 ⟨Kd.R_reok rfl (Kd.R_below HR.out B12) (fun k hk => by have := Kd.R_lt HR.out k hk; have := HG.out; omega), HD.out, Below.refl _ _, Nat.le_refl _, hgs, hbs⟩)
  have HB13 := Aside0.mk B13
  clear B12 B13 hgs hbs
  go_wp2_with (go_at_call 18; (with_reducible refine FM.out.mono ?_); rintro e' W3 ⟨v', rfl, hS⟩; have HS3 := Aside0.mk hS; clear hS)
  go_ret
  exact ⟨_, rfl, Kd.R_mono HS3.out.row (fun _ _ => trivial), HB13.out.trans HS3.out.below⟩
end Go.Proofs.YtckjffhimofikaaDoor.P
