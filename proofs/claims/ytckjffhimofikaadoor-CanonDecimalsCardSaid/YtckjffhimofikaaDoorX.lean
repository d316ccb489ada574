/- The document's number, walked. -/
import Derived.Test.YtckjffhimofikaaDoorW
namespace Go.Proofs.YtckjffhimofikaaDoor.W
open Go.RowKit Go.Proofs.YtckjffhimofikaaDoorF Go.Proofs.YtckjffhimofikaaDoorW.PrintWords Go.Proofs.YtckjffhimofikaaDoor.A Go.Proofs.YtckjffhimofikaaDoor.FF Go.Proofs.YtckjffhimofikaaDoor.KBase Go.Proofs.YtckjffhimofikaaDoorW.PrintLast Go.Proofs.YtckjffhimofikaaDoorW.PrintMore
set_option linter.unusedSimpArgs false
set_option linter.unusedVariables false
attribute [local go_sem high] run_feq run_fne run_flt_lt run_flt_le run_flt_gt run_flt_ge

abbrev e0 : ByteArray := ⟨#[]⟩
theorem ref_out (b : Nat) (w : World) (h : flt_ge b 0 = false ∨ flt_le b 4607182418800017408 = false) :
    Calls Tryd.prog 7 #[.float .f64 b] w fun e w' => e = .returned (.tuple #[.string e0, .bool false]) ∧ Below w.heap.size w w' := by
  cases h1 : flt_ge b 0
  · go_enter Tryd.func7, Tryd.ntmps7
    go_wp2
    go_ret2
    exact ⟨rfl, Below.refl _ _⟩
  · have h2 : flt_le b 4607182418800017408 = false := by
      rcases h with h | h
      · rw [h] at h1; cases h1
      · exact h
    clear h
    go_enter Tryd.func7, Tryd.ntmps7
    go_wp2
    go_ret2
    exact ⟨rfl, Below.refl _ _⟩
/-- The few floats that are told at once. -/
theorem ref_few (b r : Nat) (lt z o : Bool) (w : World) (h1 : flt_ge b 0 = true) (h2 : flt_le b 4607182418800017408 = true) (h3 : floatBits .quo .f64 4607182418800017408 b = some r) (h4 : flt_lt r 0 = lt) (h5 : feq b 0 = z) (h6 : feq b 4607182418800017408 = o) (h : lt = true ∨ z = true ∨ o = true) :
    Calls Tryd.prog 7 #[.float .f64 b] w fun e w' => e = .returned (if lt then .tuple #[.string e0, .bool false] else if z then .tuple #[.string ⟨#[48]⟩, .bool true] else .tuple #[.string ⟨#[49]⟩, .bool true]) ∧ Below w.heap.size w w' := by
  have hq : ∀ W : World, (binOp .quo 24 (.float .f64 4607182418800017408) (.float .f64 b)).run Tryd.prog W = .ok (.float .f64 r) W := fun W => run_float_arith W .quo 24 .f64 _ _ _ h3
  cases lt
  · cases z
    · cases o
      · simp at h
      · clear h h3
        go_enter Tryd.func7, Tryd.ntmps7
        go_wp2
        go_ret2
        exact ⟨rfl, Below.refl _ _⟩
    · clear h h3
      go_enter Tryd.func7, Tryd.ntmps7
      go_wp2
      go_ret2
      exact ⟨rfl, Below.refl _ _⟩
  · clear h h3
    go_enter Tryd.func7, Tryd.ntmps7
    go_wp2
    go_ret2
    exact ⟨rfl, Below.refl _ _⟩
def ansV : Option (Nat × Nat) → Value
  | some (n, k) => .tuple #[.string (⟨#[48, 46]⟩ ++ strOfNums (low n k)), .bool true]
  | none => .tuple #[.string e0, .bool false]
theorem hit_ok {b n k r : Nat} (hb : b < 4607182418800017408) (hv : Val n k) (hr : Ieee.double.div (fl n) (fl (10 ^ k)) = some r) : feq r b = decide (r = b) :=
  feq_pos (by have := (hit_tiny hv.2.2.1 hv.2.2.2 ⟨hv.1, hv.2.1⟩ hr).2; omega) (by omega)
set_option maxRecDepth 100000 in
set_option maxHeartbeats 4000000 in
/-- Between 0 and 1: who has a short decimal has it told; else none. -/
theorem ref_in (b r : Nat) (w : World) (hb0 : 0 < b) (hb : b < 4607182418800017408) (h1 : flt_ge b 0 = true) (h2 : flt_le b 4607182418800017408 = true) (h3 : floatBits .quo .f64 4607182418800017408 b = some r) (h4 : flt_lt r 0 = false) (h5 : feq b 0 = false) (h6 : feq b 4607182418800017408 = false)
    (o : Option (Nat × Nat)) (ho : ∀ n k, o = some (n, k) → Val n k ∧ Says b n k) (hn : o = none → ∀ n k, Val n k → ¬ Hit b n k) :
    Calls Tryd.prog 7 #[.float .f64 b] w fun e w' => e = .returned (ansV o) ∧ Below w.heap.size w w' := by
  have hq : ∀ W : World, (binOp .quo 24 (.float .f64 4607182418800017408) (.float .f64 b)).run Tryd.prog W = .ok (.float .f64 r) W := fun W => run_float_arith W .quo 24 .f64 _ _ _ h3
  obtain ⟨v, hv⟩ : ∃ v : Value, v = (ansV o) := ⟨_, rfl⟩
  rw [← hv]
  have HV := Aside0.mk hv
  have HO := Aside0.mk ho
  have HN := Aside0.mk hn
  have HB0 := Aside0.mk hb0
  have HB := Aside0.mk hb
  clear hv ho hn h3 hb0 hb
  go_enter Tryd.func7, Tryd.ntmps7
  go_wp2
  go_loop [4, 5] (fun u4 u5 => ∃ k P0 : Nat, k ≤ 9 ∧ u5 = .int .i64 ((k + 1 : Nat) : Int) ∧ u4 = .int .i64 (P0 : Int) ∧ Aside0 (P0 = 10 ^ k) ∧ Aside0 (∀ n1 k1, o = some (n1, k1) → k < k1)) (fun _ u5 => 10 - (intOf u5).toNat)
  case atStart => exact ⟨0, 1, by omega, rfl, rfl, ⟨rfl⟩, ⟨fun n1 k1 h => (HO.out n1 k1 h).1.1⟩⟩
  case round =>
    clear hq h1 h2 h4 h5 h6
    obtain ⟨k, P0, hk, rfl, rfl, HP, HK⟩ := hrel
    by_cases hk9 : k < 9
    · have hk9' : ((k + 1 : Nat) : Int) ≤ 9 := by omega
      have hPb : P0 ≤ 100000000 := by rw [HP.out]; exact Nat.pow_le_pow_right (n := 10) (by omega) (show k ≤ 8 by omega)
      have hP0 : 0 < P0 := by rw [HP.out]; exact Nat.pow_pos (by omega)
      obtain ⟨P, hP⟩ : ∃ P, P = 10 * P0 := ⟨_, rfl⟩
      have HPK := Aside0.mk (show P = 10 ^ (k + 1) by rw [hP, HP.out, Nat.pow_succ, Nat.mul_comm])
      have eP : 10 * (P0 : Int) = (P : Nat) := by omega
      have hPb2 : P ≤ 1000000000 := by omega
      have hPb3 : 0 < P := by omega
      obtain ⟨y, near, hy, hnear, hnb⟩ := near_any HB0.out (Nat.le_of_lt HB.out) hPb3 (show P ≤ 10 ^ 9 by omega)
      have oi := of_int hPb3 (show P < 2 ^ 53 by omega)
      have hmul : ∀ W : World, (binOp .mul 24 (.float .f64 b) (.float .f64 (fl P))).run Tryd.prog W = .ok (.float .f64 y) W := fun W => run_float_arith W .mul 24 .f64 _ _ _ hy
      have hcv : ∀ W : World, (convert 24 3 (.float .f64 y)).run Tryd.prog W = .ok (.int .i64 (near : Nat)) W := fun W => run_convert_float_int W 24 3 .f64 .i64 y near (by kernel_rfl) Tryd.underlying3 hnear
      have HY := Aside0.mk hy
      have HNEAR := Aside0.mk hnear
      clear hP hy hnear
      go_wp2
      clear hmul hcv
      go_loop [7] (fun u7 => ∃ n : Int, (near : Int) - 2 ≤ n ∧ n ≤ near + 3 ∧ u7 = .int .i64 n ∧ Aside0 (∀ n1 k1, o = some (n1, k1) → k + 1 = k1 → n ≤ (n1 : Int))) (fun u7 => ((near : Int) + 3 - intOf u7).toNat)
      case atStart => exact ⟨_, Int.le_refl _, by omega, rfl, ⟨fun n1 k1 h1 h2 => by
        have := (HO.out n1 k1 h1).2.2.2 y near (by rw [← h2, ← HPK.out]; exact HY.out) HNEAR.out
        omega⟩⟩
      case round =>
        obtain ⟨n, hn1, hn2, rfl, HNN⟩ := hrel
        by_cases hn3 : n ≤ near + 2
        · by_cases hval : 0 < n ∧ n < P
          · obtain ⟨hv1, hv2⟩ := hval
            obtain ⟨m, rfl⟩ : ∃ m : Nat, n = m := ⟨n.toNat, by omega⟩
            have hval : Val m (k + 1) := ⟨by omega, by omega, by omega, by rw [← HPK.out]; omega⟩
            obtain ⟨r2, hr2⟩ := div_some hval.2.2.1 hval.2.2.2 ⟨hval.1, hval.2.1⟩
            have HFT := Aside0.mk (hit_ok HB.out hval hr2)
            have HH := Aside0.mk (show Hit b m (k + 1) ↔ r2 = b from by
              unfold Hit
              rw [hr2]
              exact ⟨fun h => Option.some.inj h, fun h => by rw [h]⟩)
            have om := of_int (show 0 < m by omega) (show m < 2 ^ 53 by omega)
            rw [← HPK.out] at hr2
            have hdv : ∀ W : World, (binOp .quo 24 (.float .f64 (fl m)) (.float .f64 (fl P))).run Tryd.prog W = .ok (.float .f64 r2) W := fun W => run_float_arith W .quo 24 .f64 _ _ _ hr2
            have HVAL := Aside0.mk hval
            clear hr2 hval
            by_cases hrb : r2 = b
            · have hft : feq r2 b = true := by rw [HFT.out]; exact decide_eq_true hrb
              have HHIT := Aside0.mk (HH.out.2 hrb)
              have DC := Aside0.mk (show Calls Tryd.prog 10 #[.int .i64 (m : Nat), .int .i64 ((k : Int) + 1)] w fun e w' => e = .returned (.string (strOfNums (low m (k + 1)))) ∧ Below w.heap.size w w' from digits_calls m (k + 1) w (by omega) (by omega))
              have hsz : (strOfNums (low m (k + 1))).size ≤ 20 := by rw [strOfNums_size]; simp [low]; omega
              clear hrb
              go_wp2_with (go_at_call 10; (with_reducible refine DC.out.mono ?_); rintro e' W3 ⟨rfl, hbb⟩; have HB3 := Aside0.mk hbb; clear hbb)
              go_ret2
              refine ⟨?_, HB3.out⟩
              have hv : v = .tuple #[.string (⟨#[48, 46]⟩ ++ strOfNums (low m (k + 1))), .bool true] := by
                rw [HV.out]
                rcases o with _ | ⟨n1, k1⟩
                · exact absurd HHIT.out (HN.out rfl m (k + 1) HVAL.out)
                · have hs := (HO.out n1 k1 rfl).2.2.1 m (k + 1) HVAL.out HHIT.out
                  have hk1 := HK.out n1 k1 rfl
                  have hkk : k + 1 = k1 := by omega
                  subst hkk
                  rw [hs.2 rfl]
                  rfl
              rw [hv]
              rfl
            · have hft : feq r2 b = false := by rw [HFT.out]; exact decide_eq_false hrb
              have HR2 := Aside0.mk hrb
              clear hrb
              go_wp2
              go_round
              case rel =>
                refine ⟨_, by omega, by omega, rfl, ⟨fun n1 k1 h1 h2 => ?_⟩⟩
                have h3 := HNN.out n1 k1 h1 h2
                have h4 : (m : Int) ≠ n1 := fun e => by
                  apply HR2.out
                  apply HH.out.1
                  have h5 := (HO.out n1 k1 h1).2.1
                  have e2 : m = n1 := by omega
                  rw [e2, h2]
                  exact h5
                omega
              case measure => simp [intOf]; omega
          · have HVV := Aside0.mk hval
            have hor : n ≤ 0 ∨ (P : Int) ≤ n := by omega
            clear hval
            have key : ∀ n1 k1, o = some (n1, k1) → k + 1 = k1 → n + 1 ≤ (n1 : Int) := fun n1 k1 h1 h2 => by
              have h3 := HNN.out n1 k1 h1 h2
              have h4 := (HO.out n1 k1 h1).1
              have h5 : n1 < P := by rw [HPK.out, h2]; exact h4.2.2.2
              have h6 := h4.2.2.1
              have : (n : Int) ≠ n1 := fun e => HVV.out ⟨by omega, by omega⟩
              omega
            have HKEY := Aside0.mk key
            clear key
            rcases hor with hle | hge
            · have t1 : decide (0 < n) = false := decide_eq_false (by omega)
              go_wp2
              go_round
              case rel => exact ⟨_, by omega, by omega, rfl, HKEY⟩
              case measure => simp [intOf]; omega
            · have t1 : decide (0 < n) = true := decide_eq_true (by omega)
              have t2 : decide (n < (P : Int)) = false := decide_eq_false (by omega)
              go_wp2
              go_round
              case rel => exact ⟨_, by omega, by omega, rfl, HKEY⟩
              case measure => simp [intOf]; omega
        · go_wp2
          go_round
          case rel =>
            refine ⟨k + 1, P, by omega, by go_num, rfl, HPK, ⟨fun n1 k1 h1 => ?_⟩⟩
            have h2 := HK.out n1 k1 h1
            rcases Nat.lt_or_ge (k + 1) k1 with h3 | h3
            · exact h3
            · exfalso
              have h4 : k + 1 = k1 := by omega
              have h5 := HNN.out n1 k1 h1 h4
              have h6 := (HO.out n1 k1 h1).2.2.2 y near (by rw [← h4, ← HPK.out]; exact HY.out) HNEAR.out
              omega
          case measure => simp [intOf]; omega
    · obtain rfl : k = 9 := by omega
      have hv : v = .tuple #[.string e0, .bool false] := by
        rw [HV.out]
        rcases o with _ | ⟨n1, k1⟩
        · rfl
        · have h1 := HK.out n1 k1 rfl
          have h2 := (HO.out n1 k1 rfl).1.2.1
          omega
      have HVF := Aside0.mk hv
      clear hv
      go_wp2
      go_ret2
      exact ⟨by rw [HVF.out]; rfl, Below.refl _ _⟩
end Go.Proofs.YtckjffhimofikaaDoor.W
