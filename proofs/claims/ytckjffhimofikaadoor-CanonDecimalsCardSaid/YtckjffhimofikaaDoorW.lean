/- The document's number, walked. -/
import Derived.Test.YtckjffhimofikaaDoorSay
import Derived.Test.YtckjffhimofikaaDoorFlt
import Derived.Test.YtckjffhimofikaaDoorKBase
import Derived.Laws.FloatArith
namespace Go.Proofs.YtckjffhimofikaaDoor.W
open Go.RowKit Go.Proofs.YtckjffhimofikaaDoorF Go.Proofs.YtckjffhimofikaaDoorW.PrintWords Go.Proofs.YtckjffhimofikaaDoor.A Go.Proofs.YtckjffhimofikaaDoor.FF Go.Proofs.YtckjffhimofikaaDoor.KBase Go.Proofs.YtckjffhimofikaaDoorW.PrintLast Go.Proofs.YtckjffhimofikaaDoorW.PrintMore
set_option linter.unusedSimpArgs false
set_option linter.unusedVariables false
attribute [local go_sem high] run_feq run_fne run_flt_lt run_flt_le run_flt_gt run_flt_ge

/-- The last i digits. -/
def low (n i : Nat) : List Int := (List.range i).map (fun j => ((48 + n / 10 ^ (i - 1 - j) % 10 : Nat) : Int))
theorem low_succ (n i : Nat) : low n (i + 1) = ((48 + n / 10 ^ i % 10 : Nat) : Int) :: low n i := by
  unfold low
  rw [List.range_succ_eq_map, List.map_cons, List.map_map]
  rw [Nat.add_sub_cancel, Nat.sub_zero]
  refine congrArg (List.cons _) ?_
  apply List.map_congr_left
  intro j hj
  simp only [Function.comp]
  rw [show i - j.succ = i - 1 - j by omega]
theorem str_cons (a : Int) (l : List Int) : strOfNums (a :: l) = ⟨#[UInt8.ofNat a.toNat]⟩ ++ strOfNums l := by
  apply ByteArray.ext
  simp [strOfNums, ByteArray.data_append]
theorem dig_ex : ∀ d : Fin 10, (⟨#[48, 49, 50, 51, 52, 53, 54, 55, 56, 57]⟩ : ByteArray).extract d.val (d.val + 1) = ⟨#[UInt8.ofNat (48 + d.val)]⟩ := by decide +kernel
theorem low_step {n i x d : Nat} (hx : x = n / 10 ^ i) (hd : x % 10 = d) : (⟨#[UInt8.ofNat (48 + d)]⟩ : ByteArray) ++ strOfNums (low n i) = strOfNums (low n (i + 1)) := by
  rw [low_succ, str_cons, ← hd, hx]
  rfl
set_option maxRecDepth 100000 in
set_option maxHeartbeats 4000000 in
theorem digits_calls (n k : Nat) (w : World) (hn : n < 2 ^ 40) (hk : k ≤ 9) : Calls Tryd.prog 10 #[.int .i64 (n : Nat), .int .i64 (k : Nat)] w fun e w' => e = .returned (.string (strOfNums (low n k))) ∧ Below w.heap.size w w' := by
  have s0 : strOfNums (low n 0) = ⟨#[]⟩ := rfl
  obtain ⟨T, hT⟩ : ∃ T : Nat → ByteArray, ∀ i, T i = strOfNums (low n i) := ⟨_, fun _ => rfl⟩
  have hT0 : T 0 = ⟨#[]⟩ := by rw [hT]; rfl
  rw [← hT]
  have HT := Aside0.mk hT
  have HT0 := Aside0.mk hT0
  clear s0 hT hT0
  go_enter Tryd.func10, Tryd.ntmps10
  go_wp2
  go_loopw [0, 6, 7] (fun u0 u6 u7 wr => ∃ i x : Nat, i ≤ k ∧ u7 = .int .i64 i ∧ u0 = .int .i64 x ∧ x ≤ n ∧ Aside0 (x = n / 10 ^ i) ∧ u6 = .string (T i) ∧ Aside0 (Below w.heap.size w wr)) (fun _ _ u7 _ => k - (intOf u7).toNat)
  case atStart => exact ⟨0, n, by omega, rfl, rfl, Nat.le_refl _, ⟨by simp⟩, by rw [HT0.out], ⟨Below.refl _ _⟩⟩
  case round =>
    obtain ⟨i, x, hi, rfl, rfl, hxn, HX, rfl, HB⟩ := hrel
    by_cases hlt : i < k
    · have hlt' : (i : Int) < k := by omega
      have hsz : (T i).size = i := by rw [HT.out, strOfNums_size]; simp [low]
      have hszb : (T i).size ≤ 9 := by omega
      clear hsz
      obtain ⟨d, hd⟩ : ∃ d, d = x % 10 := ⟨_, rfl⟩
      have hd10 : d < 10 := by omega
      have HD := Aside0.mk hd.symm
      have hxd : (x : Int) % 10 = (d : Nat) := by omega
      clear hd
      have hc : d = 0 ∨ d = 1 ∨ d = 2 ∨ d = 3 ∨ d = 4 ∨ d = 5 ∨ d = 6 ∨ d = 7 ∨ d = 8 ∨ d = 9 := by omega
      clear hd10
      rcases hc with rfl | rfl | rfl | rfl | rfl | rfl | rfl | rfl | rfl | rfl
      · have hxd : (x : Int) % 10 = 0 := hxd
        go_wp2
        go_roundw
        case rel => exact ⟨i + 1, x / 10, by omega, by go_num, by first | rfl | go_num, by omega, ⟨by rw [HX.out, Nat.div_div_eq_div_mul, Nat.pow_succ]⟩, by rw [HT.out (i + 1), ← low_step HX.out HD.out, ← HT.out]; rfl, HB⟩
        case measure => simp [intOf]; omega
      · have hxd : (x : Int) % 10 = 1 := hxd
        go_wp2
        go_roundw
        case rel => exact ⟨i + 1, x / 10, by omega, by go_num, by first | rfl | go_num, by omega, ⟨by rw [HX.out, Nat.div_div_eq_div_mul, Nat.pow_succ]⟩, by rw [HT.out (i + 1), ← low_step HX.out HD.out, ← HT.out]; rfl, HB⟩
        case measure => simp [intOf]; omega
      · have hxd : (x : Int) % 10 = 2 := hxd
        go_wp2
        go_roundw
        case rel => exact ⟨i + 1, x / 10, by omega, by go_num, by first | rfl | go_num, by omega, ⟨by rw [HX.out, Nat.div_div_eq_div_mul, Nat.pow_succ]⟩, by rw [HT.out (i + 1), ← low_step HX.out HD.out, ← HT.out]; rfl, HB⟩
        case measure => simp [intOf]; omega
      · have hxd : (x : Int) % 10 = 3 := hxd
        go_wp2
        go_roundw
        case rel => exact ⟨i + 1, x / 10, by omega, by go_num, by first | rfl | go_num, by omega, ⟨by rw [HX.out, Nat.div_div_eq_div_mul, Nat.pow_succ]⟩, by rw [HT.out (i + 1), ← low_step HX.out HD.out, ← HT.out]; rfl, HB⟩
        case measure => simp [intOf]; omega
      · have hxd : (x : Int) % 10 = 4 := hxd
        go_wp2
        go_roundw
        case rel => exact ⟨i + 1, x / 10, by omega, by go_num, by first | rfl | go_num, by omega, ⟨by rw [HX.out, Nat.div_div_eq_div_mul, Nat.pow_succ]⟩, by rw [HT.out (i + 1), ← low_step HX.out HD.out, ← HT.out]; rfl, HB⟩
        case measure => simp [intOf]; omega
      · have hxd : (x : Int) % 10 = 5 := hxd
        go_wp2
        go_roundw
        case rel => exact ⟨i + 1, x / 10, by omega, by go_num, by first | rfl | go_num, by omega, ⟨by rw [HX.out, Nat.div_div_eq_div_mul, Nat.pow_succ]⟩, by rw [HT.out (i + 1), ← low_step HX.out HD.out, ← HT.out]; rfl, HB⟩
        case measure => simp [intOf]; omega
      · have hxd : (x : Int) % 10 = 6 := hxd
        go_wp2
        go_roundw
        case rel => exact ⟨i + 1, x / 10, by omega, by go_num, by first | rfl | go_num, by omega, ⟨by rw [HX.out, Nat.div_div_eq_div_mul, Nat.pow_succ]⟩, by rw [HT.out (i + 1), ← low_step HX.out HD.out, ← HT.out]; rfl, HB⟩
        case measure => simp [intOf]; omega
      · have hxd : (x : Int) % 10 = 7 := hxd
        go_wp2
        go_roundw
        case rel => exact ⟨i + 1, x / 10, by omega, by go_num, by first | rfl | go_num, by omega, ⟨by rw [HX.out, Nat.div_div_eq_div_mul, Nat.pow_succ]⟩, by rw [HT.out (i + 1), ← low_step HX.out HD.out, ← HT.out]; rfl, HB⟩
        case measure => simp [intOf]; omega
      · have hxd : (x : Int) % 10 = 8 := hxd
        go_wp2
        go_roundw
        case rel => exact ⟨i + 1, x / 10, by omega, by go_num, by first | rfl | go_num, by omega, ⟨by rw [HX.out, Nat.div_div_eq_div_mul, Nat.pow_succ]⟩, by rw [HT.out (i + 1), ← low_step HX.out HD.out, ← HT.out]; rfl, HB⟩
        case measure => simp [intOf]; omega
      · have hxd : (x : Int) % 10 = 9 := hxd
        go_wp2
        go_roundw
        case rel => exact ⟨i + 1, x / 10, by omega, by go_num, by first | rfl | go_num, by omega, ⟨by rw [HX.out, Nat.div_div_eq_div_mul, Nat.pow_succ]⟩, by rw [HT.out (i + 1), ← low_step HX.out HD.out, ← HT.out]; rfl, HB⟩
        case measure => simp [intOf]; omega
    · obtain rfl : i = k := by omega
      go_wp2
      go_ret
      exact ⟨rfl, HB.out⟩
theorem of_int {c : Nat} (h0 : 0 < c) (h : c < 2 ^ 53) : floatOfInt .f64 (c : Int) = fl c := by
  show Ieee.double.nearest (decide ((c : Int) < 0)) (c : Int).natAbs 0 = _
  rw [decide_eq_false (by omega), Int.natAbs_natCast]
  exact nearest_nat h0 h
end Go.Proofs.YtckjffhimofikaaDoor.W
