/- ftoa64 at 'f', the shortest, walked. -/
import Derived.Test.YtckjffhimofikaaDoorM
import Derived.Test.YtckjffhimofikaaDoorF
import Derived.Test.YtckjffhimofikaaDoorG
import Derived.Test.YtckjffhimofikaaDoorI
import Derived.Laws.Externs
namespace Go.Proofs.YtckjffhimofikaaDoor.P
open Go.RowKit Go.Proofs.YtckjffhimofikaaDoorW.PrintWords Go.Proofs.YtckjffhimofikaaDoor.A Go.Proofs.YtckjffhimofikaaDoor.B Go.Proofs.YtckjffhimofikaaDoor.C Go.Proofs.YtckjffhimofikaaDoor.FF Go.Proofs.YtckjffhimofikaaDoor.KBase Go.Proofs.YtckjffhimofikaaDoor.J Go.Proofs.YtckjffhimofikaaDoor.L Go.Proofs.YtckjffhimofikaaDoorW.PrintLast Go.Proofs.YtckjffhimofikaaDoorW.PrintMore
set_option linter.unusedSimpArgs false
set_option linter.unusedVariables false
attribute [local go_sem] max2_int min2_int max_two min_two

theorem bits_run (b : Nat) (w : World) : (callFunc 15 #[.float .f64 b]).run Tryd.prog w = .ok (.value (.int .u64 (b : Nat))) w := by
  rw [@run_callFunc_extern Tryd.prog 15 _ Extern.MathFloatBits.float64bits Tryd.func15 (by kernel_rfl) (by kernel_rfl) (by kernel_rfl) (by kernel_rfl)]
  rfl
theorem and2047 (x : Int) (h0 : 0 ≤ x) (h1 : x ≤ 2047) : bits .and .i64 x 2047 = x := by
  have h : bits .and .i64 x 2047 = x % 2048 := bits_mask .i64 63 (by decide) wraps_i64 11 (by decide) x h0 (by omega)
  rw [h]
  omega
theorem and52 (x : Int) (h0 : 0 ≤ x) (h1 : x < 18446744073709551616) : bits .and .u64 x 4503599627370495 = x % 4503599627370496 := bits_mask .u64 64 (by decide) wraps_u64 52 (by decide) x h0 h1
theorem or52 (x : Nat) (h1 : x < 4503599627370496) : bits .or .u64 (x : Int) 4503599627370496 = ((x + 4503599627370496 : Nat) : Int) := by
  have h := bits_or_u64_nat x 4503599627370496 (by omega) (by decide)
  have e : x ||| 4503599627370496 = x + 4503599627370496 := by
    rw [Nat.or_comm, Nat.add_comm]
    have := Nat.two_pow_add_eq_or_of_lt (i := 52) (b := x) h1 1
    simpa using this.symm
  rw [e] at h
  exact h
theorem zeros32 (i : Nat) (hi : i < 32) : (#[.int .u8 0, .int .u8 0, .int .u8 0, .int .u8 0, .int .u8 0, .int .u8 0, .int .u8 0, .int .u8 0, .int .u8 0, .int .u8 0, .int .u8 0, .int .u8 0, .int .u8 0, .int .u8 0, .int .u8 0, .int .u8 0, .int .u8 0, .int .u8 0, .int .u8 0, .int .u8 0, .int .u8 0, .int .u8 0, .int .u8 0, .int .u8 0, .int .u8 0, .int .u8 0, .int .u8 0, .int .u8 0, .int .u8 0, .int .u8 0, .int .u8 0, .int .u8 0] : Array Value)[i]? = some (.int .u8 0) := by
  have hc : i = 0 ∨ i = 1 ∨ i = 2 ∨ i = 3 ∨ i = 4 ∨ i = 5 ∨ i = 6 ∨ i = 7 ∨ i = 8 ∨ i = 9 ∨ i = 10 ∨ i = 11 ∨ i = 12 ∨ i = 13 ∨ i = 14 ∨ i = 15 ∨ i = 16 ∨ i = 17 ∨ i = 18 ∨ i = 19 ∨ i = 20 ∨ i = 21 ∨ i = 22 ∨ i = 23 ∨ i = 24 ∨ i = 25 ∨ i = 26 ∨ i = 27 ∨ i = 28 ∨ i = 29 ∨ i = 30 ∨ i = 31 := by omega
  rcases hc with rfl | rfl | rfl | rfl | rfl | rfl | rfl | rfl | rfl | rfl | rfl | rfl | rfl | rfl | rfl | rfl | rfl | rfl | rfl | rfl | rfl | rfl | rfl | rfl | rfl | rfl | rfl | rfl | rfl | rfl | rfl | rfl <;> rfl

set_option maxRecDepth 100000 in
set_option maxHeartbeats 4000000 in
theorem ftoa_norm (ex fr M m d q nz z base : Nat) (v : Value) (w : World) (hx1 : 1 ≤ ex) (hx2 : ex ≤ 1023) (hf : fr < 2 ^ 52) (hM : M = fr + 2 ^ 52) (hm : m = M * 2 ^ 11) (hd : d < 2 ^ 64) (hq : q ≤ 400) (hnz : nz = nzR d (ndig d) (ndig d)) (hz : ndig d + z = q) (hpos : 0 < nz + z) (hb : base ≤ w.heap.size) (hdd : d < 10 ^ ndig d)
    (hR : Kd.R (Kd.int .u8) 5 w base (fun _ => True) v []) (hT : ∀ W, Below base w W → ∃ H L, Tabs H L W) (hlen : Lib.bitLen M = 53)
    (hSF : ∀ W, Below base w W → Calls Tryd.prog 28 #[.int .u64 (m : Nat), .int .i64 ((ex : Int) - 1086)] W fun e' w' => e' = .returned (.tuple #[.int .u64 (d : Nat), .int .i64 (-(q : Int))]) ∧ Below W.heap.size W w') :
    Calls Tryd.prog 13 #[v, .float .f64 (ex * 2 ^ 52 + fr), .int .u8 102, .int .i64 (-1)] w fun e w' => ∃ v', e = .returned v' ∧ Kd.R (Kd.int .u8) 5 w' base (fun _ => True) v' ([48, 46] ++ List.replicate z 48 ++ (List.range nz).map (fun i => ((48 + d / 10 ^ (ndig d - 1 - i) % 10 : Nat) : Int))) ∧ Below base w w' := by
  obtain ⟨b, hbb⟩ : ∃ b, b = ex * 2 ^ 52 + fr := ⟨_, rfl⟩
  rw [← hbb]
  have h15 := bits_run b
  have g1 : (b : Int) / 9223372036854775808 = 0 := by omega
  have g2 : (b : Int) / 4503599627370496 = (ex : Nat) := by omega
  have g3 := and2047 (ex : Int) (by omega) (by omega)
  have g4 : bits .and .u64 (b : Int) 4503599627370495 = (fr : Nat) := by rw [and52 _ (by omega) (by omega)]; omega
  have g5 : bits .or .u64 (fr : Int) 4503599627370496 = (M : Nat) := by rw [or52 _ (by omega)]; omega
  have t1 : ((ex : Int) == 2047) = false := by simp; omega
  have t2 : ((ex : Int) == 0) = false := by simp; omega
  have t3 : ((M : Int) == 0) = false := by simp; omega
  have HR := Aside0.mk hR
  have HT := Aside0.mk hT
  have HSF := Aside0.mk hSF
  have HB := Aside0.mk hb
  have HNZ := Aside0.mk hnz
  have HZ := Aside0.mk hz
  have HL := Aside0.mk (fun W => show Calls Tryd.prog 19 #[.int .u64 (M : Nat)] W fun e w' => e = .returned (.int .i64 53) ∧ W = w' from (lenN_calls M W (by omega)).mono fun _ _ ⟨h1, h2⟩ => ⟨by rw [h1, hlen]; rfl, h2⟩)
  have gm : IntKind.u64.wrap ((M : Int) * 2048) = (m : Nat) := by rw [IntKind.wrap_u64]; omega
  obtain ⟨E1, hE1⟩ : ∃ E1 : Int, E1 = (ex : Int) - 1034 := ⟨_, rfl⟩
  have gE1 : (ex : Int) + -1023 - 11 = E1 := by omega
  have gE2 : E1 - 52 = (ex : Int) - 1086 := by omega
  have bE1 : -2000 ≤ E1 := by omega
  have bE2 : E1 ≤ 0 := by omega
  clear hR hT hSF hb hnz hz hlen hM hm hbb hE1
  go_enter Tryd.func13, Tryd.ntmps13
  go_upto_region 14 with fail
  go_quiet (fail)
  go_upto_region 33 with fail
  clear g1 g2 g3 g4 g5 t1 t2 t3 h15
  have HB1 := Aside0.mk (show Below w.heap.size w (w.drewN nq) from pw_below_drewN (Below.refl _ _) nq)
  have HB1' := Aside0.mk (show Below base w (w.drewN nq) from pw_below_drewN (Below.refl _ _) nq)
  have hsz : (w.drewN nq).heap.size = w.heap.size := rfl
  have HSZ := Aside0.mk hsz
  clear hsz
  go_upto_region 34 with fail
  have hst : Stays ((w.drewN nq).alloc (.cells #[.int .u8 0, .int .u8 0, .int .u8 0, .int .u8 0, .int .u8 0, .int .u8 0, .int .u8 0, .int .u8 0, .int .u8 0, .int .u8 0, .int .u8 0, .int .u8 0, .int .u8 0, .int .u8 0, .int .u8 0, .int .u8 0, .int .u8 0, .int .u8 0, .int .u8 0, .int .u8 0, .int .u8 0, .int .u8 0, .int .u8 0, .int .u8 0, .int .u8 0, .int .u8 0, .int .u8 0, .int .u8 0, .int .u8 0, .int .u8 0, .int .u8 0, .int .u8 0] 42)) w.heap.size #[.int .u8 0, .int .u8 0, .int .u8 0, .int .u8 0, .int .u8 0, .int .u8 0, .int .u8 0, .int .u8 0, .int .u8 0, .int .u8 0, .int .u8 0, .int .u8 0, .int .u8 0, .int .u8 0, .int .u8 0, .int .u8 0, .int .u8 0, .int .u8 0, .int .u8 0, .int .u8 0, .int .u8 0, .int .u8 0, .int .u8 0, .int .u8 0, .int .u8 0, .int .u8 0, .int .u8 0, .int .u8 0, .int .u8 0, .int .u8 0, .int .u8 0, .int .u8 0] 42 := heap_alloc_new (w.drewN nq) _
  have hb0 : Below w.heap.size w ((w.drewN nq).alloc (.cells #[.int .u8 0, .int .u8 0, .int .u8 0, .int .u8 0, .int .u8 0, .int .u8 0, .int .u8 0, .int .u8 0, .int .u8 0, .int .u8 0, .int .u8 0, .int .u8 0, .int .u8 0, .int .u8 0, .int .u8 0, .int .u8 0, .int .u8 0, .int .u8 0, .int .u8 0, .int .u8 0, .int .u8 0, .int .u8 0, .int .u8 0, .int .u8 0, .int .u8 0, .int .u8 0, .int .u8 0, .int .u8 0, .int .u8 0, .int .u8 0, .int .u8 0, .int .u8 0] 42)) := below_alloc HB1.out _
  have hb1 : Below base w ((w.drewN nq).alloc (.cells #[.int .u8 0, .int .u8 0, .int .u8 0, .int .u8 0, .int .u8 0, .int .u8 0, .int .u8 0, .int .u8 0, .int .u8 0, .int .u8 0, .int .u8 0, .int .u8 0, .int .u8 0, .int .u8 0, .int .u8 0, .int .u8 0, .int .u8 0, .int .u8 0, .int .u8 0, .int .u8 0, .int .u8 0, .int .u8 0, .int .u8 0, .int .u8 0, .int .u8 0, .int .u8 0, .int .u8 0, .int .u8 0, .int .u8 0, .int .u8 0, .int .u8 0, .int .u8 0] 42)) := HB1'.out.alloc HB.out _
  obtain ⟨W0, hW0⟩ : ∃ W0, W0 = (w.drewN nq).alloc (.cells #[.int .u8 0, .int .u8 0, .int .u8 0, .int .u8 0, .int .u8 0, .int .u8 0, .int .u8 0, .int .u8 0, .int .u8 0, .int .u8 0, .int .u8 0, .int .u8 0, .int .u8 0, .int .u8 0, .int .u8 0, .int .u8 0, .int .u8 0, .int .u8 0, .int .u8 0, .int .u8 0, .int .u8 0, .int .u8 0, .int .u8 0, .int .u8 0, .int .u8 0, .int .u8 0, .int .u8 0, .int .u8 0, .int .u8 0, .int .u8 0, .int .u8 0, .int .u8 0] 42) := ⟨_, rfl⟩
  obtain ⟨g, hg⟩ : ∃ g, g = w.heap.size := ⟨_, rfl⟩
  rw [← hW0] at hst hb0 hb1 ⊢
  have HG := Aside0.mk hg
  rw [← hg] at hst ⊢
  have HS0 := Aside0.mk hst
  have HB2 := Aside0.mk hb0
  have HB3 := Aside0.mk hb1
  clear hst hb0 hb1 hW0 hg HB1 HB1' HSZ
  go_upto_region 38 with (first
    | (go_at_call 19; (with_reducible refine (HL.out _).mono ?_); rintro e' w' ⟨rfl, rfl⟩)
    | (go_at_call 28; (with_reducible refine (HSF.out _ HB3.out).mono ?_); rintro e' W1 ⟨rfl, hb⟩; have HS1 := Aside0.mk (HS0.out.below hb); have HB4 := Aside0.mk (below_then HB2.out HB2.out.size hb); have HB5 := Aside0.mk (below_then HB3.out (Nat.le_trans HB.out HB2.out.size) hb); clear hb))
  obtain ⟨H, L, hT1⟩ := HT.out _ (show Below base w W1.drew from below_drew HB5.out)
  have DG := Aside0.mk (digits_calls d W1.drew hT1 hd)
  have SD := Aside0.mk (show Calls Tryd.prog 21 #[.slice (some ⟨g, 0, none⟩) 32 32, .int .u64 (d : Nat), .int .i64 (-(q : Int)), .int .i64 (ndig d : Nat)] W1.drew fun e w' => e = .returned (.tuple #[.int .i64 (-(z : Int)), .int .i64 (nz : Nat)]) ∧ Digs d (ndig d) g w' ∧ Below g W1.drew w' ∧ W1.drew.heap.size ≤ w'.heap.size from by
    have h := setDigits_calls d (ndig d) g (-(q : Int)) W1.drew hd hdd (ndig_le hd) (by omega) (by omega) (by have := (Array.getElem?_eq_some_iff.1 HS1.out).1; exact this) (fun i hi => ⟨(HS1.out.cell i).trans (zeros32 i hi), blk_frozen HS1.out i⟩)
    rw [← HNZ.out] at h
    exact h.mono fun e w' ⟨h1, h2⟩ => ⟨by have e1 : ((ndig d : Nat) : Int) + -(q : Int) = -(z : Int) := (by have := HZ.out; omega); rw [h1, e1], h2⟩)
  clear hT1
  refine start_ (n := 11) (S := fun w' => True) (ds := []) #[false, false, false, false, false, false, false, false, false, false, false] (by kernel_rfl) rfl rfl trivial (fun hHeld => ?_)
  refine pure_ (i := 0) (N := some 140) (v := ?_) (a' := ?_) #[true, false, false, false, false, false, false, false, false, false, false] rfl rfl (by kernel_rfl) (fun _ _ _ h => h) (Or.inl ⟨by rfl, ?_⟩) ?_ ?_
  rotate_left
  · intro w'
    go_simp
    with_reducible rfl
  rotate_left
  · simp only [Act.put, List.setIfInBounds_toArray, List.set_cons_zero, List.set_cons_succ]
    rfl
  refine pure_ (i := 1) (N := some 141) (v := ?_) (a' := ?_) #[true, true, false, false, false, false, false, false, false, false, false] rfl rfl (by kernel_rfl) (fun _ _ _ h => h) (Or.inl ⟨by rfl, ?_⟩) ?_ ?_
  rotate_left
  · intro w'
    go_simp
    with_reducible rfl
  rotate_left
  · simp only [Act.put, List.setIfInBounds_toArray, List.set_cons_zero, List.set_cons_succ]
    rfl
  refine pure_ (i := 2) (N := some 142) (v := ?_) (a' := ?_) #[true, true, true, false, false, false, false, false, false, false, false] rfl rfl (by kernel_rfl) (fun _ _ _ h => h) (Or.inl ⟨by rfl, ?_⟩) ?_ ?_
  rotate_left
  · intro w'
    go_simp
    with_reducible rfl
  rotate_left
  · simp only [Act.put, List.setIfInBounds_toArray, List.set_cons_zero, List.set_cons_succ]
    rfl
  refine pure_ (i := 3) (N := some 143) (v := ?_) (a' := ?_) #[true, true, true, true, false, false, false, false, false, false, false] rfl rfl (by kernel_rfl) (fun _ _ _ h => h) (Or.inl ⟨by rfl, ?_⟩) ?_ ?_
  rotate_left
  · intro w'
    go_simp
    with_reducible rfl
  rotate_left
  · simp only [Act.put, List.setIfInBounds_toArray, List.set_cons_zero, List.set_cons_succ]
    rfl
  refine one_ (i := 4) (N := some 144) #[true, true, true, true, true, false, false, false, false, false, false] rfl rfl (by kernel_rfl) (by decide) (fun K hK => ?_)
  refine goes_ Tryd.func22 (by kernel_rfl) rfl #[.int .u64 (d : Nat)] (by rfl) rfl rfl (by (try simp only [List.map_toArray, List.map_cons, List.map_nil]); first | done | rfl) ?_
  refine (DG.out).mono ?_
  rintro e' w' ⟨rfl, rfl⟩
  refine ⟨_, rfl, ?_⟩
  refine hK.out _ _ trivial (fun hHeld => ?_)
  clear hK K
  refine norm_ (a' := ?_) ?_ ?_
  rotate_left
  · show Act.put _ (some 144) _ = _
    simp only [Act.put, List.setIfInBounds_toArray, List.set_cons_zero, List.set_cons_succ]
    rfl
  refine one_ (i := 5) (N := some 145) #[true, true, true, true, true, true, false, false, false, false, false] rfl rfl (by kernel_rfl) (by decide) (fun K hK => ?_)
  refine goes_ Tryd.func21 (by kernel_rfl) rfl #[.slice (some ⟨g, 0, none⟩) 32 32, .int .u64 (d : Nat), .int .i64 (-(q : Int)), .int .i64 (ndig d : Nat)] (by rfl) rfl rfl (by (try simp only [List.map_toArray, List.map_cons, List.map_nil]); first | done | rfl) ?_
  refine (SD.out).mono ?_
  rintro e' W2 ⟨rfl, hD, hbb, hss⟩
  refine ⟨_, rfl, ?_⟩
  have HD := Aside0.mk hD
  have HBB := Aside0.mk hbb
  have HSS := Aside0.mk hss
  clear hD hbb hss
  refine hK.out _ _ trivial (fun hHeld => ?_)
  clear hK K
  refine norm_ (a' := ?_) ?_ ?_
  rotate_left
  · show Act.put _ (some 145) _ = _
    simp only [Act.put, List.setIfInBounds_toArray, List.set_cons_zero, List.set_cons_succ]
    rfl
  refine pure_ (i := 6) (N := some 139) (v := ?_) (a' := ?_) #[true, true, true, true, true, true, true, false, false, false, false] rfl rfl (by kernel_rfl) (fun _ _ _ h => h) (Or.inl ⟨by rfl, ?_⟩) ?_ ?_
  rotate_left
  · intro w'
    go_simp
    with_reducible rfl
  rotate_left
  · simp only [Act.put, List.setIfInBounds_toArray, List.set_cons_zero, List.set_cons_succ]
    rfl
  refine pure_ (i := 7) (N := some 146) (v := ?_) (a' := ?_) #[true, true, true, true, true, true, true, true, false, false, false] rfl rfl (by kernel_rfl) (fun _ _ _ h => h) (Or.inl ⟨by rfl, ?_⟩) ?_ ?_
  rotate_left
  · intro w'
    go_simp
    with_reducible rfl
  rotate_left
  · simp only [Act.put, List.setIfInBounds_toArray, List.set_cons_zero, List.set_cons_succ]
    rfl
  refine pure_ (i := 8) (N := some 147) (v := ?_) (a' := ?_) #[true, true, true, true, true, true, true, true, true, false, false] rfl rfl (by kernel_rfl) (fun _ _ _ h => h) (Or.inl ⟨by rfl, ?_⟩) ?_ ?_
  rotate_left
  · intro w'
    go_simp
    with_reducible rfl
  rotate_left
  · simp only [Act.put, List.setIfInBounds_toArray, List.set_cons_zero, List.set_cons_succ]
    rfl
  refine pure_ (i := 9) (N := some 22) (v := ?_) (a' := ?_) #[true, true, true, true, true, true, true, true, true, true, false] rfl rfl (by kernel_rfl) (fun _ _ _ h => h) (Or.inl ⟨by rfl, ?_⟩) ?_ ?_
  rotate_left
  · intro w'
    go_simp
    with_reducible rfl
  rotate_left
  · simp only [Act.put, List.setIfInBounds_toArray, List.set_cons_zero, List.set_cons_succ]
    rfl
  refine pure_ (i := 10) (N := some 23) (v := ?_) (a' := ?_) #[true, true, true, true, true, true, true, true, true, true, true] rfl rfl (by kernel_rfl) (fun _ _ _ h => h) (Or.inl ⟨by rfl, ?_⟩) ?_ ?_
  rotate_left
  · intro w'
    go_simp
    with_reducible rfl
  rotate_left
  · simp only [Act.put, List.setIfInBounds_toArray, List.set_cons_zero, List.set_cons_succ]
    rfl
  refine done_ (by kernel_rfl) ?_
  clear hHeld DG SD
  have z1 : nz ≤ 20 := by have h1 := nz_le d (ndig d) (ndig d); have h2 := ndig_le hd; have h3 := HNZ.out; omega
  have z2 : z ≤ 400 := by have := HZ.out; omega
  have z3 : (if (nz : Int) + z < 0 then 0 else (nz : Int) + z) = nz + z := by split <;> omega
  go_upto_region 48 with fail
  have B12 : Below w.heap.size w W2 := (below_drew HB4.out).trans (by have := HBB.out; rw [HG.out] at this; exact this)
  have B13 : Below base w W2 := (below_drew HB5.out).trans (by have := HBB.out; exact this.mono (by rw [HG.out]; exact HB.out))
  have hgs : g < W2.heap.size := Nat.lt_of_lt_of_le (Array.getElem?_eq_some_iff.1 HS1.out).1 HSS.out
  have hbs : base ≤ W2.heap.size := Nat.le_trans (by have h1 := HB.out; have h2 := HG.out; omega : base ≤ g) (Nat.le_of_lt hgs)
  have FM := Aside0.mk (fmt_calls d (ndig d) g nz z base v W2 (ndig_le hd) (by rw [HNZ.out]; exact nz_le _ _ _) z2 hpos ⟨Kd.R_reok rfl (Kd.R_below HR.out B12) (fun k hk => by have := Kd.R_lt HR.out k hk; have := HG.out; omega), HD.out, Below.refl _ _, Nat.le_refl _, hgs, hbs⟩)
  have HB13 := Aside0.mk B13
  clear B12 B13 hgs hbs z1 z2 z3
  go_wp2_with (go_at_call 18; (with_reducible refine FM.out.mono ?_); rintro e' W3 ⟨v', rfl, hS⟩; have HS3 := Aside0.mk hS; clear hS)
  go_ret
  exact ⟨_, rfl, Kd.R_mono HS3.out.row (fun _ _ => trivial), HB13.out.trans HS3.out.below⟩
end Go.Proofs.YtckjffhimofikaaDoor.P
