/- gatehouselaw05.CanonDecimals, walked. -/
import Derived.Test.YtckjffhimofikaaDoorOne
namespace Go.Proofs.YtckjffhimofikaaDoor.Dec
open Ieee Go.RowKit Go.Proofs.YtckjffhimofikaaDoorF Go.Proofs.YtckjffhimofikaaDoorW.PrintWords Go.Proofs.YtckjffhimofikaaDoor.A Go.Proofs.YtckjffhimofikaaDoor.C Go.Proofs.YtckjffhimofikaaDoor.FF Go.Proofs.YtckjffhimofikaaDoor.KBase Go.Proofs.YtckjffhimofikaaDoor.J Go.Proofs.YtckjffhimofikaaDoor.U Go.Proofs.YtckjffhimofikaaDoor.W Go.Proofs.YtckjffhimofikaaDoor.One Go.Proofs.YtckjffhimofikaaDoor.Y Go.Proofs.YtckjffhimofikaaDoorW.PrintLast Go.Proofs.YtckjffhimofikaaDoorW.PrintMore
set_option linter.unusedSimpArgs false
set_option linter.unusedVariables false
set_option maxRecDepth 4000

theorem pick_calls (k : Int) (n : Nat) (w : World) (hk : -9223372036854775808 ≤ k ∧ k ≤ 9223372036854775807) (h0 : 0 < n) (hn : n ≤ 1000000000) :
    Calls Tryd.prog 8 #[.int .i64 k, .int .i64 (n : Nat)] w fun e w' => (∃ m : Nat, m < n ∧ e = .returned (.int .i64 (m : Nat))) ∧ Below w.heap.size w w' := by
  have hr1 : Int.tmod k n < n := Int.tmod_lt_of_pos _ (by omega)
  have hr2 : -(n : Int) < Int.tmod k n := by
    have := Int.lt_tmod_of_pos k (show (0 : Int) < n by omega)
    omega
  by_cases hneg : Int.tmod k n < 0
  · go_enter Tryd.func8, Tryd.ntmps8
    go_wp2
    go_ret
    exact ⟨⟨(Int.tmod k n + n).toNat, by omega, by rw [Int.toNat_of_nonneg (by omega)]; rfl⟩, Below.refl _ _⟩
  · go_enter Tryd.func8, Tryd.ntmps8
    go_wp2
    go_ret
    exact ⟨⟨(Int.tmod k n).toNat, by omega, by rw [Int.toNat_of_nonneg (by omega)]; rfl⟩, Below.refl _ _⟩
theorem low_len (n k : Nat) : (strOfNums (48 :: 46 :: low n k)).size = k + 2 := by rw [strOfNums_size]; simp [low]
/-- The text's bytes. -/
def byteAt (n k i : Nat) : Nat := if i = 0 then 48 else if i = 1 then 46 else 48 + n / 10 ^ (k + 1 - i) % 10
theorem low_at (n k i : Nat) (h : i < (strOfNums (48 :: 46 :: low n k)).size) : ((strOfNums (48 :: 46 :: low n k))[i]'h).toNat = byteAt n k i := by
  have hk := low_len n k
  have e : (strOfNums (48 :: 46 :: low n k))[i]'h = UInt8.ofNat ((48 :: 46 :: low n k)[i]'(by simp [low]; omega)).toNat := by
    have e2 : ((48 :: 46 :: low n k).map (fun n => UInt8.ofNat n.toNat))[i]? = some (UInt8.ofNat ((48 :: 46 :: low n k)[i]'(by simp [low]; omega)).toNat) := by
      rw [List.getElem?_map, List.getElem?_eq_getElem (by simp [low]; omega)]; rfl
    have e3 : (strOfNums (48 :: 46 :: low n k)).data.toList = (48 :: 46 :: low n k).map (fun n => UInt8.ofNat n.toNat) := by unfold strOfNums; simp
    rw [← e3, Array.getElem?_toList] at e2
    have e4 : (strOfNums (48 :: 46 :: low n k)).data[i]? = some ((strOfNums (48 :: 46 :: low n k))[i]'h) := Array.getElem?_eq_getElem (by exact h)
    rw [e4] at e2
    exact Option.some.inj e2
  rw [e]
  unfold byteAt
  rcases i with _ | _ | i
  · rfl
  · rfl
  · rw [if_neg (by omega), if_neg (by omega)]
    simp only [List.getElem_cons_succ, low, List.getElem_map, List.getElem_range]
    rw [show k - 1 - i = k + 1 - (i + 2) by omega]
    have : 48 + n / 10 ^ (k + 1 - (i + 2)) % 10 < 256 := by omega
    rw [show k + 1 - (i + 1 + 1) = k + 1 - (i + 2) from rfl]
    generalize 48 + n / 10 ^ (k + 1 - (i + 2)) % 10 = z at this
    simp [UInt8.toNat_ofNat', Nat.mod_eq_of_lt this]
/-- The digits of a decimal, one by one. -/
def dig (N D i : Nat) : Nat := N / 10 ^ (D + 1 - i) % 10
theorem dig_low {n k D N i : Nat} (hk : k ≤ D) (e : N = n * 10 ^ (D - k)) (h2 : 2 ≤ i) (hi : i < k + 2) : byteAt n k i = 48 + dig N D i := by
  unfold byteAt dig
  rw [if_neg (by omega), if_neg (by omega), e, show D + 1 - i = (D - k) + (k + 1 - i) by omega, Nat.pow_add, Nat.mul_comm n, ← Nat.div_div_eq_div_mul, Nat.mul_div_cancel_left _ (Nat.pow_pos (by omega))]
theorem dig_zero {n k D N i : Nat} (hk : k ≤ D) (e : N = n * 10 ^ (D - k)) (h2 : k + 2 ≤ i) (hi : i < D + 2) : dig N D i = 0 := by
  unfold dig
  rw [e, show D - k = (i - k - 2 + 1) + (D + 1 - i) by omega, Nat.pow_add, ← Nat.mul_assoc, Nat.mul_div_cancel _ (Nat.pow_pos (by omega)), Nat.pow_succ, ← Nat.mul_assoc]
  exact Nat.mul_mod_left _ _
theorem dig_step {N D i : Nat} (hi : i < D + 2) : N / 10 ^ (D + 2 - (i + 1)) = 10 * (N / 10 ^ (D + 2 - i)) + dig N D i := by
  unfold dig
  rw [show D + 2 - i = D + 2 - (i + 1) + 1 by omega, Nat.pow_succ, ← Nat.div_div_eq_div_mul, show D + 1 - i = D + 2 - (i + 1) by omega]
  omega
set_option maxRecDepth 100000 in
set_option maxHeartbeats 4000000 in
theorem law_calls (n k : Int) (w : World) (hn : -9223372036854775808 ≤ n ∧ n ≤ 9223372036854775807) (hk : -9223372036854775808 ≤ k ∧ k ≤ 9223372036854775807) (hE : Env w) :
    Calls Tryd.prog 5 #[.int .i64 n, .int .i64 k] w fun e w' => e = .returned (.bool true) ∧ Below w.heap.size w w' := by
  have HE := Aside0.mk hE
  have HN := Aside0.mk hn
  have HK := Aside0.mk hk
  clear hE hn hk
  have PK := Aside0.mk (show Calls Tryd.prog 8 #[.int .i64 k, .int .i64 9] w fun e w' => (∃ m : Nat, m < 9 ∧ e = .returned (.int .i64 (m : Nat))) ∧ Below w.heap.size w w' from pick_calls k 9 w HK.out (by omega) (by omega))
  go_enter Tryd.func5, Tryd.ntmps5
  go_wp2_with (go_at_call 8; (with_reducible refine PK.out.mono ?_); rintro e' W1 ⟨⟨m, hm, rfl⟩, hb⟩; have HB1 := Aside0.mk hb; clear hb)
  obtain ⟨D, hD⟩ : ∃ D, D = 1 + m := ⟨_, rfl⟩
  have hD1 : 1 ≤ D := by omega
  have hD9 : D ≤ 9 := by omega
  go_loop [6, 7] (fun u6 u7 => ∃ i P : Nat, i ≤ D ∧ u7 = .int .i64 i ∧ u6 = .int .i64 P ∧ P ≤ 1000000000 ∧ Aside0 (P = 10 ^ i)) (fun _ u7 => D - (intOf u7).toNat)
  case atStart => exact ⟨0, 1, by omega, rfl, rfl, by omega, ⟨rfl⟩⟩
  case round =>
    obtain ⟨i, P, hi, rfl, rfl, hP9, HP⟩ := hrel
    by_cases hlt : i < D
    · have hlt' : (i : Int) < 1 + (m : Int) := by omega
      have h8 : P ≤ 100000000 := by rw [HP.out]; exact Nat.pow_le_pow_right (n := 10) (by omega) (show i ≤ 8 by omega)
      go_wp2
      go_round
      case rel => exact ⟨i + 1, 10 * P, by omega, by go_num, by go_num, by omega, ⟨by rw [HP.out, Nat.pow_succ, Nat.mul_comm]⟩⟩
      case measure => simp [intOf]; omega
    · obtain rfl : i = D := by omega
      have hlt' : 1 + (m : Int) ≤ (i : Int) := by omega
      have hP10 : 10 ≤ P := by rw [HP.out]; exact Nat.pow_le_pow_right (n := 10) (by omega) hD1
      obtain ⟨Q, hQ⟩ : ∃ Q, Q = P - 1 := ⟨_, rfl⟩
      have eQ : (P : Int) - 1 = (Q : Nat) := by omega
      have PK2 : ∀ W, Aside0 (Calls Tryd.prog 8 #[.int .i64 n, .int .i64 ((P : Int) - 1)] W fun e w' => (∃ m : Nat, m < Q ∧ e = .returned (.int .i64 (m : Nat))) ∧ Below W.heap.size W w') := fun W => ⟨by
        rw [eQ]
        exact pick_calls n Q W HN.out (by omega) (by omega)⟩
      clear eQ
      go_wp2_with (go_at_call 8; (with_reducible refine (PK2 _).out.mono ?_); rintro e' W2 ⟨⟨m2, hm2, rfl⟩, hb⟩; have HB2 := Aside0.mk (below_then HB1.out HB1.out.size hb); clear hb)
      obtain ⟨N, hN⟩ : ∃ N, N = 1 + m2 := ⟨_, rfl⟩
      have hNP : N < P := by omega
      have hval : Val N i := ⟨hD1, hD9, by omega, by rw [← HP.out]; exact hNP⟩
      obtain ⟨b, hr⟩ := div_some hval.2.2.1 hval.2.2.2 ⟨hval.1, hval.2.1⟩
      have hhit : Hit b N i := hr
      obtain ⟨c, k', hk1, hk2, hc3, hc4, hN10, hcall⟩ := num_hit (HE.out.below HB2.out) hval hhit
      rw [← HP.out] at hr
      have oi1 : floatOfInt .f64 (1 + (m2 : Int)) = fl N := by rw [← of_int (show 0 < N by omega) (show N < 2 ^ 53 by omega), hN]; congr 1
      have oi2 := of_int (show 0 < P by omega) (show P < 2 ^ 53 by omega)
      have hdv : ∀ W : World, (binOp .quo 24 (.float .f64 (floatOfInt .f64 (1 + (m2 : Int)))) (.float .f64 (floatOfInt .f64 (P : Int)))).run Tryd.prog W = .ok (.float .f64 b) W := fun W => by
        rw [oi1, oi2]
        exact run_float_arith W .quo 24 .f64 _ _ _ hr
      obtain ⟨S, hS⟩ : ∃ S, S = strOfNums (48 :: 46 :: low c k') := ⟨_, rfl⟩
      rw [← hS] at hcall
      have hsz : S.size = k' + 2 := by rw [hS]; exact low_len c k'
      have HAT := Aside0.mk (show ∀ (j : Nat) (h : j < S.size), (S[j]'h).toNat = byteAt c k' j from by rw [hS]; exact fun j h => low_at c k' j h)
      have HCALL := Aside0.mk hcall
      have HC3 := Aside0.mk hc3
      have HN10 := Aside0.mk hN10
      have HHIT := Aside0.mk hhit
      clear hr hcall hS hc3 hc4 hN10 hhit hval PK2 oi1 oi2
      have g0 : (S[0]'(by omega)).toNat = 48 := HAT.out 0 _
      have g1 : (S[1]'(by omega)).toNat = 46 := HAT.out 1 _
      have gl : (((S[k' + 1]'(by omega)).toNat : Int) == 48) = false := by
        have e : byteAt c k' (k' + 1) = 48 + c % 10 := by
          unfold byteAt
          rw [if_neg (by omega), if_neg (by omega), Nat.sub_self, Nat.pow_zero, Nat.div_one]
        rw [HAT.out (k' + 1) _, e]
        have := HC3.out
        simp only [beq_eq_false_iff_ne, ne_eq]
        omega
      go_wp2
      rw [hdv]
      clear hdv
      go_wp2_with (go_at_call 6; (with_reducible refine HCALL.out.mono ?_); rintro e' W3 ⟨rfl, hb⟩; have HB3 := Aside0.mk (below_then HB2.out HB2.out.size hb); clear hb)
      clear gl g0 g1
      have HN2 := Aside0.mk hN
      go_loop [11, 12] (fun u11 u12 => ∃ j v : Nat, 2 ≤ j ∧ j ≤ i + 2 ∧ u12 = .int .i64 j ∧ u11 = .int .i64 v ∧ v ≤ N ∧ Aside0 (v = N / 10 ^ (i + 2 - j))) (fun _ u12 => i + 2 - (intOf u12).toNat)
      case atStart => exact ⟨2, 0, by omega, by omega, rfl, rfl, by omega, ⟨(Nat.div_eq_of_lt (by rw [show i + 2 - 2 = i by omega, ← HP.out]; exact hNP)).symm⟩⟩
      case round =>
        obtain ⟨j, v, hj2, hji, rfl, rfl, hvN, HV⟩ := hrel
        by_cases hlt2 : j < i + 2
        · have hlt2' : (j : Int) < 2 + (1 + (m : Int)) := by omega
          have hst := dig_step (N := N) (D := i) (i := j) hlt2
          have hd10 : dig N i j < 10 := by unfold dig; omega
          have hle : N / 10 ^ (i + 2 - (j + 1)) ≤ N := Nat.div_le_self _ _
          obtain ⟨V, hV⟩ : ∃ V, V = N / 10 ^ (i + 2 - (j + 1)) := ⟨_, rfl⟩
          rw [← hV, ← HV.out] at hst
          rw [← hV] at hle
          have HV2 := Aside0.mk hV
          clear hV
          by_cases hjk : j < k' + 2
          · have gj : (S[j]'(by omega)).toNat = 48 + dig N i j := by rw [HAT.out j _, dig_low hk2 HN10.out hj2 hjk]
            obtain ⟨d, hd⟩ : ∃ d, d = dig N i j := ⟨_, rfl⟩
            rw [← hd] at gj hst hd10
            clear hd
            go_wp2
            go_round
            case rel => exact ⟨j + 1, V, by omega, by omega, by go_num, by rw [hst]; go_num, hle, HV2⟩
            case measure => simp [intOf]; omega
          · have h0 := dig_zero hk2 HN10.out (show k' + 2 ≤ j by omega) hlt2
            rw [h0] at hst
            go_wp2
            go_round
            case rel => exact ⟨j + 1, V, by omega, by omega, by go_num, by rw [hst]; go_num, hle, HV2⟩
            case measure => simp [intOf]; omega
        · obtain rfl : j = i + 2 := by omega
          have hv : v = N := by rw [HV.out, Nat.sub_self, Nat.pow_zero, Nat.div_one]
          have hlt2' : 2 + (1 + (m : Int)) ≤ ((i + 2 : Nat) : Int) := by omega
          have hvv : (v : Int) = 1 + (m2 : Int) := by omega
          have hvb : ((v : Int) == 1 + (m2 : Int)) = true := by rw [hvv]; exact beq_self_eq_true _
          clear hv hvv
          go_wp2
          go_ret
          exact ⟨rfl, HB3.out⟩
end Go.Proofs.YtckjffhimofikaaDoor.Dec
