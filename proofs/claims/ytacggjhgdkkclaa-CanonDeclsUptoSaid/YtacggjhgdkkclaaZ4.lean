/- Of this session's texts, what the row uses: PGx13, PGx2, PGx14, PGx15, KUntP. -/
import Derived.Test.YtacggjhgdkkclaaZ2
namespace Go.Proofs.Ytacggjhgdkkclaa.PG
open Go.Proofs.YtacggjhgdkkclaaF
attribute [local go_sem high] run_feq run_fne run_flt_lt run_flt_le run_flt_gt run_flt_ge
open Go.RowKit Go.Proofs.YtacggjhgdkkclaaW.PrintWords Go.Proofs.YtacggjhgdkkclaaW.PrintLast Go.Proofs.YtacggjhgdkkclaaW.PrintMore
attribute [local go_sem] max2_int min2_int max_two min_two max_three min_three max_four min_four   -- for this text's walks alone
set_option linter.unusedVariables false
set_option linter.unusedSimpArgs false
/-! ### gatehouselaw05_asLong: function 19 -/
mutual
def gatehouselaw05_asLong.j0 : Nat → List ByteArray → List ByteArray → Bool → Option (Bool)
 | 0, _, _, _ => none
 | k + 1, x0, x1, x19 => if x19 = true then (some false) else (gatehouselaw05_asLong.l0 k x0 x1 0)
def gatehouselaw05_asLong.l0 : Nat → List ByteArray → List ByteArray → Int → Option (Bool)
 | 0, _, _, _ => none
 | k + 1, x0, x1, x5 => if x5 < (x1.length : Int) then (if 0 ≤ x5 then (if x5 < (x0.length : Int) then (if (rdOf ByteArray.empty x0 x5).toList = (rdOf ByteArray.empty x1 x5).toList then (gatehouselaw05_asLong.l0 k x0 x1 (wrap64 (x5 + 1))) else (some false)) else (none)) else (none)) else (some true)
end
def gatehouselaw05_asLong.f (k : Nat) (l0 : List ByteArray) (l1 : List ByteArray) : Option (Bool) := if (l0.length : Int) = (wrap64 ((l1.length : Int) + 1)) then (if 0 ≤ (l1.length : Int) then (if (l1.length : Int) < (l0.length : Int) then (gatehouselaw05_asLong.j0 k l0 l1 ((rdOf ByteArray.empty l0 (l1.length : Int)).toList != ([35] : List UInt8))) else (none)) else (none)) else (gatehouselaw05_asLong.j0 k l0 l1 true)
theorem gatehouselaw05_asLong.mono_l : ∀ k, (∀ y0 y1 y2, LeO (gatehouselaw05_asLong.j0 k y0 y1 y2) (gatehouselaw05_asLong.j0 (k + 1) y0 y1 y2)) ∧ (∀ y0 y1 y2, LeO (gatehouselaw05_asLong.l0 k y0 y1 y2) (gatehouselaw05_asLong.l0 (k + 1) y0 y1 y2))
 | 0 => ⟨fun _ _ _ r h => by simp [gatehouselaw05_asLong.j0] at h, fun _ _ _ r h => by simp [gatehouselaw05_asLong.l0] at h⟩
 | k + 1 => by
  obtain ⟨ih0, ih1⟩ := gatehouselaw05_asLong.mono_l k
  refine ⟨?_, ?_⟩
  ·intro y0 y1 y2
   unfold gatehouselaw05_asLong.j0
   repeat' first
   | (with_reducible exact ih0 _ _ _)
   | (with_reducible exact ih1 _ _ _)
   | (with_reducible exact LeO.refl _)
   | (with_reducible exact LeO.none _)
   | (with_reducible refine LeO.ite ?_ ?_)
   | (with_reducible refine LeO.bind ?_ (fun _ => ?_))
   | exact ih0 _ _ _
   | exact ih1 _ _ _
   | exact LeO.none _
   | refine LeO.ite ?_ ?_
   | refine LeO.bind ?_ (fun _ => ?_)
  ·intro y0 y1 y2
   unfold gatehouselaw05_asLong.l0
   repeat' first
   | (with_reducible exact ih0 _ _ _)
   | (with_reducible exact ih1 _ _ _)
   | (with_reducible exact LeO.refl _)
   | (with_reducible exact LeO.none _)
   | (with_reducible refine LeO.ite ?_ ?_)
   | (with_reducible refine LeO.bind ?_ (fun _ => ?_))
   | exact ih0 _ _ _
   | exact ih1 _ _ _
   | exact LeO.none _
   | refine LeO.ite ?_ ?_
   | refine LeO.bind ?_ (fun _ => ?_)
theorem gatehouselaw05_asLong.mono : ∀ a0 a1 k, LeO (gatehouselaw05_asLong.f k a0 a1) (gatehouselaw05_asLong.f (k + 1) a0 a1) := by
 intro a0 a1 k
 obtain ⟨ih0, ih1⟩ := gatehouselaw05_asLong.mono_l k
 unfold gatehouselaw05_asLong.f
 repeat' first
   | (with_reducible exact ih0 _ _ _)
   | (with_reducible exact ih1 _ _ _)
   | (with_reducible exact LeO.refl _)
   | (with_reducible exact LeO.none _)
   | (with_reducible refine LeO.ite ?_ ?_)
   | (with_reducible refine LeO.bind ?_ (fun _ => ?_))
   | exact ih0 _ _ _
   | exact ih1 _ _ _
   | exact LeO.none _
   | refine LeO.ite ?_ ?_
   | refine LeO.bind ?_ (fun _ => ?_)
set_option maxHeartbeats 8000000 in
set_option maxRecDepth 100000 in
theorem gatehouselaw05_asLong.calls (k : Nat) (A0 : Option Addr) (c0 : Nat) (l0 : List ByteArray) (A1 : Option Addr) (c1 : Nat) (l1 : List ByteArray) (r : Bool) (w : World) (hr0 : Kd.C Kd.string w A0 l0.length l0) (hc0 : l0.length ≤ c0) (hr1 : Kd.C Kd.string w A1 l1.length l1) (hc1 : l1.length ≤ c1) (h : gatehouselaw05_asLong.f k l0 l1 = some r) :
  Calls Try.prog 19 #[.slice A0 l0.length c0, .slice A1 l1.length c1] w fun e w' => e = .returned (.bool r) ∧ Drawn0 w w' := by
 have HR0 := Aside0.mk hr0
 have HC0 := Aside0.mk hc0
 clear hr0 hc0
 have HR1 := Aside0.mk hr1
 have HC1 := Aside0.mk hc1
 clear hr1 hc1
 have H : (if (l0.length : Int) = (wrap64 ((l1.length : Int) + 1)) then (if 0 ≤ (l1.length : Int) then (if (l1.length : Int) < (l0.length : Int) then (gatehouselaw05_asLong.j0 k l0 l1 ((rdOf ByteArray.empty l0 (l1.length : Int)).toList != ([35] : List UInt8))) else (none)) else (none)) else (gatehouselaw05_asLong.j0 k l0 l1 true)) = some r := h
 clear h
 have HC3 := Aside0.mk H
 clear H
 go_enter Try.func19, Try.ntmps19
 go_upto_region 1 with (fail)
 repeat (go_quiet (fail); go_upto_region 1 with (fail))
 go_cut [19] (fun v19 wc => ∃ (kq : Nat) (x19_2 : Bool), v19 = .bool x19_2 ∧ Aside0 (gatehouselaw05_asLong.j0 kq l0 l1 x19_2 = some r) ∧ Aside0 (kq ≤ k) ∧ Drawn0 w wc)
 case first =>
  have H := HC3.out
  clear HC3
  by_cases c4 : (l0.length : Int) = (wrap64 ((l1.length : Int) + 1))
  ·rw [if_pos c4] at H
   have c4b0 : ((l0.length : Int) == (wrap64 ((l1.length : Int) + 1))) = true := beq_iff_eq.mpr c4
   have c4b1 : ((l0.length : Int) != (wrap64 ((l1.length : Int) + 1))) = false := bne_eq_false_iff_eq.mpr c4
   clear c4
   (first | rw [c4b0] | (simp only [i64_w, i32_w]; rw [c4b0]) | skip)
   by_cases c5 : 0 ≤ (l1.length : Int)
   ·rw [if_pos c5] at H
    have c5b0 : decide (0 ≤ (l1.length : Int)) = true := decide_eq_true c5
    have c5b1 : decide (0 ≤ l1.length) = true := decide_eq_true (by omega)
    clear c5
    by_cases c6 : (l1.length : Int) < (l0.length : Int)
    ·rw [if_pos c6] at H
     have c6b0 : decide ((l1.length : Int) < (l0.length : Int)) = true := decide_eq_true c6
     have c6b1 : decide (l1.length < l0.length) = true := decide_eq_true (Int.ofNat_lt.mp c6)
     clear c6
     have H' := Aside0.mk H
     clear H
     have p345 : 0 ≤ ((l1.length : Int) : Int) := of_decide_eq_true (by first | (with_reducible assumption) | assumption)
     have q345 : (l1.length : Int) < (l0.length : Int) := of_decide_eq_true (by first | (with_reducible assumption) | assumption)
     obtain ⟨ad345, e345, hx345_0⟩ := Kd.at_string HR0.out (l1.length : Int) p345 q345
     cases e345
     (try simp only [Go.IntWalk.toNatUp] at hx345_0)
     replace p345 := eq_true p345
     replace q345 := eq_true q345
     go_wp2
     repeat (go_quiet (fail); try go_wp2)
     go_meet
     case rel => exact ⟨_, (((rdOf ByteArray.empty l0 (l1.length : Int)).toList != ([35] : List UInt8))), (by first | rfl | (simp; done) | (simp [*]; done)), H', ⟨by first | omega | exact Nat.le_refl _⟩, by repeat (first | exact Drawn0.refl _ | apply Drawn0.step)⟩
    ·rw [if_neg c6] at H
     exact absurd H (by simp)
   ·rw [if_neg c5] at H
    exact absurd H (by simp)
  ·rw [if_neg c4] at H
   have c4b0 : ((l0.length : Int) == (wrap64 ((l1.length : Int) + 1))) = false := beq_eq_false_iff_ne.mpr c4
   have c4b1 : ((l0.length : Int) != (wrap64 ((l1.length : Int) + 1))) = true := bne_iff_ne.mpr c4
   (first | rw [c4b0] | (simp only [i64_w, i32_w]; rw [c4b0]) | skip)
   have H' := Aside0.mk H
   clear H
   go_wp2
   repeat (go_quiet (fail); try go_wp2)
   go_meet
   case rel => exact ⟨_, (true), (by first | rfl | (simp; done) | (simp [*]; done)), H', ⟨by first | omega | exact Nat.le_refl _⟩, by repeat (first | exact Drawn0.refl _ | apply Drawn0.step)⟩
 case rest =>
  clear HC3
  try clear c1
  try clear p2
  try clear p3
  try clear q3
  try clear hx3
  try clear c4
  try clear c4b0
  try clear c4b1
  try clear c5
  try clear c5b0
  try clear c5b1
  try clear c6
  try clear c6b0
  try clear c6b1
  try clear p6
  try clear hx345_0
  try clear p345
  try clear q345
  obtain ⟨kq, x19_2, rfl, HA, HJ2, ⟨mc2, rfl⟩⟩ := hcut
  cases kq with
  | zero => exact absurd HA.out (by simp [gatehouselaw05_asLong.j0])
  | succ kj2 =>
   have H := HA.out
   clear HA
   simp only [gatehouselaw05_asLong.j0] at H
   by_cases c7 : x19_2 = true
   ·subst c7
    have H1 : (some false) = some r := by rw [if_pos rfl] at H; exact H
    clear H
    have H := H1
    clear H1
    obtain rfl := Option.some.inj H
    go_wp2
    repeat (go_quiet (fail); try go_wp2)
    go_ret
    exact ⟨by first | rfl | (simp; done) | (simp [*]; done), by repeat (first | exact Drawn0.refl _ | apply Drawn0.step)⟩
   ·replace c7 := Bool.eq_false_iff.mpr c7
    subst c7
    have H1 : (gatehouselaw05_asLong.l0 kj2 l0 l1 0) = some r := by rw [if_neg (show ¬ (false = true) by decide)] at H; exact H
    clear H
    have H := H1
    clear H1
    have H' := Aside0.mk H
    clear H
    go_wp2
    repeat (go_quiet (fail); try go_wp2)
    go_loopg [5] kj2 (fun kq v5 w' => ∃ (x5_2 : Int), v5 = .int .i64 x5_2 ∧ Aside0 (gatehouselaw05_asLong.l0 kq l0 l1 x5_2 = some r) ∧ Aside0 (kq ≤ kj2) ∧ Drawn0 w w')
    case atStart => exact ⟨(0), (by first | rfl | (simp; done) | (simp [*]; done)), H', ⟨Nat.le_refl _⟩, by repeat (first | exact Drawn0.refl _ | apply Drawn0.step)⟩
    case round =>
     clear H'
     try clear c1
     try clear c2
     try clear p2
     try clear p3
     try clear q3
     try clear hx3
     try clear c4
     try clear c4b0
     try clear c4b1
     try clear c5
     try clear c5b0
     try clear c5b1
     try clear c6
     try clear c6b0
     try clear c6b1
     try clear p6
     try clear c7
     try clear hx345_0
     try clear p2
     try clear p3
     try clear p345
     try clear p6
     try clear q3
     try clear q345
     obtain ⟨x5_2, rfl, HA, HK2, ⟨m2, rfl⟩⟩ := hrel
     cases gk with
     | zero => exact absurd HA.out (by simp [gatehouselaw05_asLong.l0])
     | succ k2 =>
      have H := HA.out
      clear HA
      simp only [gatehouselaw05_asLong.l0] at H
      by_cases c8 : x5_2 < (l1.length : Int)
      ·rw [if_pos c8] at H
       have c8b0 : decide (x5_2 < (l1.length : Int)) = true := decide_eq_true c8
       clear c8
       by_cases c9 : 0 ≤ x5_2
       ·rw [if_pos c9] at H
        have c9b0 : decide (0 ≤ x5_2) = true := decide_eq_true c9
        clear c9
        by_cases c10 : x5_2 < (l0.length : Int)
        ·rw [if_pos c10] at H
         have c10b0 : decide (x5_2 < (l0.length : Int)) = true := decide_eq_true c10
         clear c10
         by_cases c11 : (rdOf ByteArray.empty l0 x5_2).toList = (rdOf ByteArray.empty l1 x5_2).toList
         ·rw [if_pos c11] at H
          have c11b0 : ((rdOf ByteArray.empty l0 x5_2).toList == (rdOf ByteArray.empty l1 x5_2).toList) = true := beq_iff_eq.mpr c11
          have c11b1 : ((rdOf ByteArray.empty l0 x5_2).toList != (rdOf ByteArray.empty l1 x5_2).toList) = false := bne_eq_false_iff_eq.mpr c11
          clear c11
          have H' := Aside0.mk H
          clear H
          have p346 : 0 ≤ (x5_2 : Int) := of_decide_eq_true (by first | (with_reducible assumption) | assumption)
          have q346 : x5_2 < (l0.length : Int) := of_decide_eq_true (by first | (with_reducible assumption) | assumption)
          obtain ⟨ad346, e346, hx346_0⟩ := Kd.at_string HR0.out x5_2 p346 q346
          cases e346
          replace p346 := eq_true p346
          replace q346 := eq_true q346
          have p347 : 0 ≤ (x5_2 : Int) := of_decide_eq_true (by first | (with_reducible assumption) | assumption)
          have q347 : x5_2 < (l1.length : Int) := of_decide_eq_true (by first | (with_reducible assumption) | assumption)
          obtain ⟨ad347, e347, hx347_0⟩ := Kd.at_string HR1.out x5_2 p347 q347
          cases e347
          replace p347 := eq_true p347
          replace q347 := eq_true q347
          go_wp2
          repeat (go_quiet (fail); try go_wp2)
          go_roundg k2
          case measure => have := HJ2.out; have := HK2.out; omega
          case rel => exact ⟨(wrap64 (x5_2 + 1)), (by first | rfl | (simp; done) | (simp [*]; done)), H', ⟨by have := HJ2.out; have := HK2.out; omega⟩, by repeat (first | exact Drawn0.refl _ | apply Drawn0.step)⟩
         ·rw [if_neg c11] at H
          have c11b0 : ((rdOf ByteArray.empty l0 x5_2).toList == (rdOf ByteArray.empty l1 x5_2).toList) = false := beq_eq_false_iff_ne.mpr c11
          have c11b1 : ((rdOf ByteArray.empty l0 x5_2).toList != (rdOf ByteArray.empty l1 x5_2).toList) = true := bne_iff_ne.mpr c11
          obtain rfl := Option.some.inj H
          have p346 : 0 ≤ (x5_2 : Int) := of_decide_eq_true (by first | (with_reducible assumption) | assumption)
          have q346 : x5_2 < (l0.length : Int) := of_decide_eq_true (by first | (with_reducible assumption) | assumption)
          obtain ⟨ad346, e346, hx346_0⟩ := Kd.at_string HR0.out x5_2 p346 q346
          cases e346
          replace p346 := eq_true p346
          replace q346 := eq_true q346
          have p347 : 0 ≤ (x5_2 : Int) := of_decide_eq_true (by first | (with_reducible assumption) | assumption)
          have q347 : x5_2 < (l1.length : Int) := of_decide_eq_true (by first | (with_reducible assumption) | assumption)
          obtain ⟨ad347, e347, hx347_0⟩ := Kd.at_string HR1.out x5_2 p347 q347
          cases e347
          replace p347 := eq_true p347
          replace q347 := eq_true q347
          go_wp2
          repeat (go_quiet (fail); try go_wp2)
          go_ret
          exact ⟨by first | rfl | (simp; done) | (simp [*]; done), by repeat (first | exact Drawn0.refl _ | apply Drawn0.step)⟩
        ·rw [if_neg c10] at H
         exact absurd H (by simp)
       ·rw [if_neg c9] at H
        exact absurd H (by simp)
      ·rw [if_neg c8] at H
       have c8b0 : decide (x5_2 < (l1.length : Int)) = false := decide_eq_false c8
       clear c8
       obtain rfl := Option.some.inj H
       go_wp2
       repeat (go_quiet (fail); try go_wp2)
       go_ret
       exact ⟨by first | rfl | (simp; done) | (simp [*]; done), by repeat (first | exact Drawn0.refl _ | apply Drawn0.step)⟩
end Go.Proofs.Ytacggjhgdkkclaa.PG
namespace Go.Proofs.Ytacggjhgdkkclaa.PG
open Go.Proofs.YtacggjhgdkkclaaF
attribute [local go_sem high] run_feq run_fne run_flt_lt run_flt_le run_flt_gt run_flt_ge
open Go.RowKit Go.Proofs.YtacggjhgdkkclaaW.PrintWords Go.Proofs.YtacggjhgdkkclaaW.PrintLast Go.Proofs.YtacggjhgdkkclaaW.PrintMore
attribute [local go_sem] max2_int min2_int max_two min_two max_three min_three max_four min_four   -- for this text's walks alone
set_option linter.unusedVariables false
set_option linter.unusedSimpArgs false
theorem eqA59 (d : Nat) (w : World) (x0 y0 : ByteArray) (x1 y1 : ByteArray) :
    (Op.equalIn (d + 2) 59 (.agg #[.string x0, .string x1]) (.agg #[.string y0, .string y1])).run Try.prog w = .ok (x0.toList == y0.toList && (x1.toList == y1.toList)) w := by
  refine eqA_of Try.underlying59 (by kernel_rfl) ?_
  refine eqf_cons (by rfl) (by go_simp; rfl) (by go_simp; rfl) (by go_simp) ?_
  exact eqf_last (by rfl) (by go_simp; rfl) (by go_simp; rfl) (by go_simp)
end Go.Proofs.Ytacggjhgdkkclaa.PG
namespace Go.Proofs.Ytacggjhgdkkclaa.PG
open Go.Proofs.YtacggjhgdkkclaaF
attribute [local go_sem high] run_feq run_fne run_flt_lt run_flt_le run_flt_gt run_flt_ge
open Go.RowKit Go.Proofs.YtacggjhgdkkclaaW.PrintWords Go.Proofs.YtacggjhgdkkclaaW.PrintLast Go.Proofs.YtacggjhgdkkclaaW.PrintMore
attribute [local go_sem] max2_int min2_int max_two min_two max_three min_three max_four min_four   -- for this text's walks alone
set_option linter.unusedVariables false
set_option linter.unusedSimpArgs false
attribute [local go_sem high] eqA59
/-! ### gatehouselaw05_asPairs: function 20 -/
mutual
def gatehouselaw05_asPairs.j0 : Nat → List (S59) → List (S59) → Bool → Option (Bool)
 | 0, _, _, _ => none
 | k + 1, x0, x1, x20 => if x20 = true then (some false) else (gatehouselaw05_asPairs.l0 k x0 x1 0)
def gatehouselaw05_asPairs.l0 : Nat → List (S59) → List (S59) → Int → Option (Bool)
 | 0, _, _, _ => none
 | k + 1, x0, x1, x5 => if x5 < (x1.length : Int) then (if 0 ≤ x5 then (if x5 < (x0.length : Int) then (if (!((((rd_T59 x0 x5).f0).toList) == (((rd_T59 x1 x5).f0).toList)) || (!((((rd_T59 x0 x5).f1).toList) == (((rd_T59 x1 x5).f1).toList)))) = true then (some false) else (gatehouselaw05_asPairs.l0 k x0 x1 (wrap64 (x5 + 1)))) else (none)) else (none)) else (some true)
end
def gatehouselaw05_asPairs.f (k : Nat) (l0 : List (S59)) (l1 : List (S59)) : Option (Bool) := if (l0.length : Int) = (wrap64 ((l1.length : Int) + 1)) then (if 0 ≤ (l1.length : Int) then (if (l1.length : Int) < (l0.length : Int) then (gatehouselaw05_asPairs.j0 k l0 l1 (!((((rd_T59 l0 (l1.length : Int)).f0).toList) == ([35] : List UInt8)) || (!((((rd_T59 l0 (l1.length : Int)).f1).toList) == ([] : List UInt8))))) else (none)) else (none)) else (gatehouselaw05_asPairs.j0 k l0 l1 true)
theorem gatehouselaw05_asPairs.mono_l : ∀ k, (∀ y0 y1 y2, LeO (gatehouselaw05_asPairs.j0 k y0 y1 y2) (gatehouselaw05_asPairs.j0 (k + 1) y0 y1 y2)) ∧ (∀ y0 y1 y2, LeO (gatehouselaw05_asPairs.l0 k y0 y1 y2) (gatehouselaw05_asPairs.l0 (k + 1) y0 y1 y2))
 | 0 => ⟨fun _ _ _ r h => by simp [gatehouselaw05_asPairs.j0] at h, fun _ _ _ r h => by simp [gatehouselaw05_asPairs.l0] at h⟩
 | k + 1 => by
  obtain ⟨ih0, ih1⟩ := gatehouselaw05_asPairs.mono_l k
  refine ⟨?_, ?_⟩
  ·intro y0 y1 y2
   unfold gatehouselaw05_asPairs.j0
   repeat' first
   | (with_reducible exact ih0 _ _ _)
   | (with_reducible exact ih1 _ _ _)
   | (with_reducible exact LeO.refl _)
   | (with_reducible exact LeO.none _)
   | (with_reducible refine LeO.ite ?_ ?_)
   | (with_reducible refine LeO.bind ?_ (fun _ => ?_))
   | exact ih0 _ _ _
   | exact ih1 _ _ _
   | exact LeO.none _
   | refine LeO.ite ?_ ?_
   | refine LeO.bind ?_ (fun _ => ?_)
  ·intro y0 y1 y2
   unfold gatehouselaw05_asPairs.l0
   repeat' first
   | (with_reducible exact ih0 _ _ _)
   | (with_reducible exact ih1 _ _ _)
   | (with_reducible exact LeO.refl _)
   | (with_reducible exact LeO.none _)
   | (with_reducible refine LeO.ite ?_ ?_)
   | (with_reducible refine LeO.bind ?_ (fun _ => ?_))
   | exact ih0 _ _ _
   | exact ih1 _ _ _
   | exact LeO.none _
   | refine LeO.ite ?_ ?_
   | refine LeO.bind ?_ (fun _ => ?_)
theorem gatehouselaw05_asPairs.mono : ∀ a0 a1 k, LeO (gatehouselaw05_asPairs.f k a0 a1) (gatehouselaw05_asPairs.f (k + 1) a0 a1) := by
 intro a0 a1 k
 obtain ⟨ih0, ih1⟩ := gatehouselaw05_asPairs.mono_l k
 unfold gatehouselaw05_asPairs.f
 repeat' first
   | (with_reducible exact ih0 _ _ _)
   | (with_reducible exact ih1 _ _ _)
   | (with_reducible exact LeO.refl _)
   | (with_reducible exact LeO.none _)
   | (with_reducible refine LeO.ite ?_ ?_)
   | (with_reducible refine LeO.bind ?_ (fun _ => ?_))
   | exact ih0 _ _ _
   | exact ih1 _ _ _
   | exact LeO.none _
   | refine LeO.ite ?_ ?_
   | refine LeO.bind ?_ (fun _ => ?_)
set_option maxHeartbeats 8000000 in
set_option maxRecDepth 100000 in
theorem gatehouselaw05_asPairs.calls (k : Nat) (A0 : Option Addr) (c0 : Nat) (l0 : List (S59)) (A1 : Option Addr) (c1 : Nat) (l1 : List (S59)) (r : Bool) (w : World) (hr0 : Kd.C k59 w A0 l0.length l0) (hc0 : l0.length ≤ c0) (hr1 : Kd.C k59 w A1 l1.length l1) (hc1 : l1.length ≤ c1) (h : gatehouselaw05_asPairs.f k l0 l1 = some r) :
  Calls Try.prog 20 #[.slice A0 l0.length c0, .slice A1 l1.length c1] w fun e w' => e = .returned (.bool r) ∧ Drawn0 w w' := by
 have hu59 := Try.underlying59
 have HR0 := Aside0.mk hr0
 have HC0 := Aside0.mk hc0
 clear hr0 hc0
 have HR1 := Aside0.mk hr1
 have HC1 := Aside0.mk hc1
 clear hr1 hc1
 have H : (if (l0.length : Int) = (wrap64 ((l1.length : Int) + 1)) then (if 0 ≤ (l1.length : Int) then (if (l1.length : Int) < (l0.length : Int) then (gatehouselaw05_asPairs.j0 k l0 l1 (!((((rd_T59 l0 (l1.length : Int)).f0).toList) == ([35] : List UInt8)) || (!((((rd_T59 l0 (l1.length : Int)).f1).toList) == ([] : List UInt8))))) else (none)) else (none)) else (gatehouselaw05_asPairs.j0 k l0 l1 true)) = some r := h
 clear h
 have HC3 := Aside0.mk H
 clear H
 go_enter Try.func20, Try.ntmps20
 go_upto_region 1 with (fail)
 repeat (go_quiet (fail); go_upto_region 1 with (fail))
 go_cut [20] (fun v20 wc => ∃ (kq : Nat) (x20_2 : Bool), v20 = .bool x20_2 ∧ Aside0 (gatehouselaw05_asPairs.j0 kq l0 l1 x20_2 = some r) ∧ Aside0 (kq ≤ k) ∧ Drawn0 w wc)
 case first =>
  have H := HC3.out
  clear HC3
  by_cases c4 : (l0.length : Int) = (wrap64 ((l1.length : Int) + 1))
  ·rw [if_pos c4] at H
   have c4b0 : ((l0.length : Int) == (wrap64 ((l1.length : Int) + 1))) = true := beq_iff_eq.mpr c4
   have c4b1 : ((l0.length : Int) != (wrap64 ((l1.length : Int) + 1))) = false := bne_eq_false_iff_eq.mpr c4
   clear c4
   (first | rw [c4b0] | (simp only [i64_w, i32_w]; rw [c4b0]) | skip)
   by_cases c5 : 0 ≤ (l1.length : Int)
   ·rw [if_pos c5] at H
    have c5b0 : decide (0 ≤ (l1.length : Int)) = true := decide_eq_true c5
    have c5b1 : decide (0 ≤ l1.length) = true := decide_eq_true (by omega)
    clear c5
    by_cases c6 : (l1.length : Int) < (l0.length : Int)
    ·rw [if_pos c6] at H
     have c6b0 : decide ((l1.length : Int) < (l0.length : Int)) = true := decide_eq_true c6
     have c6b1 : decide (l1.length < l0.length) = true := decide_eq_true (Int.ofNat_lt.mp c6)
     clear c6
     have H' := Aside0.mk H
     clear H
     have p348 : 0 ≤ ((l1.length : Int) : Int) := of_decide_eq_true (by first | (with_reducible assumption) | assumption)
     have q348 : (l1.length : Int) < (l0.length : Int) := of_decide_eq_true (by first | (with_reducible assumption) | assumption)
     obtain ⟨ad348, e348, hx348_0, hx348_1⟩ := at_T59 HR0.out (l1.length : Int) p348 q348
     cases e348
     (try simp only [Go.IntWalk.toNatUp] at hx348_0)
     (try simp only [Go.IntWalk.toNatUp] at hx348_1)
     replace p348 := eq_true p348
     replace q348 := eq_true q348
     go_wp2
     repeat (go_quiet (fail); try go_wp2)
     go_meet
     case rel => exact ⟨_, ((!((((rd_T59 l0 (l1.length : Int)).f0).toList) == ([35] : List UInt8)) || (!((((rd_T59 l0 (l1.length : Int)).f1).toList) == ([] : List UInt8))))), (by first | rfl | (simp; done) | (simp [*]; done)), H', ⟨by first | omega | exact Nat.le_refl _⟩, by repeat (first | exact Drawn0.refl _ | apply Drawn0.step)⟩
    ·rw [if_neg c6] at H
     exact absurd H (by simp)
   ·rw [if_neg c5] at H
    exact absurd H (by simp)
  ·rw [if_neg c4] at H
   have c4b0 : ((l0.length : Int) == (wrap64 ((l1.length : Int) + 1))) = false := beq_eq_false_iff_ne.mpr c4
   have c4b1 : ((l0.length : Int) != (wrap64 ((l1.length : Int) + 1))) = true := bne_iff_ne.mpr c4
   (first | rw [c4b0] | (simp only [i64_w, i32_w]; rw [c4b0]) | skip)
   have H' := Aside0.mk H
   clear H
   go_wp2
   repeat (go_quiet (fail); try go_wp2)
   go_meet
   case rel => exact ⟨_, (true), (by first | rfl | (simp; done) | (simp [*]; done)), H', ⟨by first | omega | exact Nat.le_refl _⟩, by repeat (first | exact Drawn0.refl _ | apply Drawn0.step)⟩
 case rest =>
  clear HC3
  try clear c1
  try clear c2
  try clear p2
  try clear p3
  try clear q3
  try clear hx3
  try clear c4
  try clear c4b0
  try clear c4b1
  try clear c5
  try clear c5b0
  try clear c5b1
  try clear c6
  try clear c6b0
  try clear c6b1
  try clear p6
  try clear hx348_0
  try clear hx348_1
  try clear p348
  try clear q348
  obtain ⟨kq, x20_2, rfl, HA, HJ2, ⟨mc2, rfl⟩⟩ := hcut
  cases kq with
  | zero => exact absurd HA.out (by simp [gatehouselaw05_asPairs.j0])
  | succ kj2 =>
   have H := HA.out
   clear HA
   simp only [gatehouselaw05_asPairs.j0] at H
   by_cases c7 : x20_2 = true
   ·subst c7
    have H1 : (some false) = some r := by rw [if_pos rfl] at H; exact H
    clear H
    have H := H1
    clear H1
    obtain rfl := Option.some.inj H
    go_wp2
    repeat (go_quiet (fail); try go_wp2)
    go_ret
    exact ⟨by first | rfl | (simp; done) | (simp [*]; done), by repeat (first | exact Drawn0.refl _ | apply Drawn0.step)⟩
   ·replace c7 := Bool.eq_false_iff.mpr c7
    subst c7
    have H1 : (gatehouselaw05_asPairs.l0 kj2 l0 l1 0) = some r := by rw [if_neg (show ¬ (false = true) by decide)] at H; exact H
    clear H
    have H := H1
    clear H1
    have H' := Aside0.mk H
    clear H
    go_wp2
    repeat (go_quiet (fail); try go_wp2)
    go_loopg [5] kj2 (fun kq v5 w' => ∃ (x5_2 : Int), v5 = .int .i64 x5_2 ∧ Aside0 (gatehouselaw05_asPairs.l0 kq l0 l1 x5_2 = some r) ∧ Aside0 (kq ≤ kj2) ∧ Drawn0 w w')
    case atStart => exact ⟨(0), (by first | rfl | (simp; done) | (simp [*]; done)), H', ⟨Nat.le_refl _⟩, by repeat (first | exact Drawn0.refl _ | apply Drawn0.step)⟩
    case round =>
     clear H'
     try clear c1
     try clear c2
     try clear p2
     try clear p3
     try clear q3
     try clear hx3
     try clear c4
     try clear c4b0
     try clear c4b1
     try clear c5
     try clear c5b0
     try clear c5b1
     try clear c6
     try clear c6b0
     try clear c6b1
     try clear p6
     try clear c7
     try clear hx348_0
     try clear hx348_1
     try clear p2
     try clear p3
     try clear p348
     try clear p6
     try clear q3
     try clear q348
     obtain ⟨x5_2, rfl, HA, HK2, ⟨m2, rfl⟩⟩ := hrel
     cases gk with
     | zero => exact absurd HA.out (by simp [gatehouselaw05_asPairs.l0])
     | succ k2 =>
      have H := HA.out
      clear HA
      simp only [gatehouselaw05_asPairs.l0] at H
      by_cases c8 : x5_2 < (l1.length : Int)
      ·rw [if_pos c8] at H
       have c8b0 : decide (x5_2 < (l1.length : Int)) = true := decide_eq_true c8
       clear c8
       by_cases c9 : 0 ≤ x5_2
       ·rw [if_pos c9] at H
        have c9b0 : decide (0 ≤ x5_2) = true := decide_eq_true c9
        clear c9
        by_cases c10 : x5_2 < (l0.length : Int)
        ·rw [if_pos c10] at H
         have c10b0 : decide (x5_2 < (l0.length : Int)) = true := decide_eq_true c10
         clear c10
         by_cases c11 : (!((((rd_T59 l0 x5_2).f0).toList) == (((rd_T59 l1 x5_2).f0).toList)) || (!((((rd_T59 l0 x5_2).f1).toList) == (((rd_T59 l1 x5_2).f1).toList)))) = true
         ·rw [if_pos c11] at H
          have c11b0 : (!((((rd_T59 l0 x5_2).f0).toList) == (((rd_T59 l1 x5_2).f0).toList)) || (!((((rd_T59 l0 x5_2).f1).toList) == (((rd_T59 l1 x5_2).f1).toList)))) = true := c11
          clear c11
          obtain rfl := Option.some.inj H
          have p349 : 0 ≤ (x5_2 : Int) := of_decide_eq_true (by first | (with_reducible assumption) | assumption)
          have q349 : x5_2 < (l0.length : Int) := of_decide_eq_true (by first | (with_reducible assumption) | assumption)
          obtain ⟨ad349, e349, hx349_0, hx349_1⟩ := at_T59 HR0.out x5_2 p349 q349
          cases e349
          replace p349 := eq_true p349
          replace q349 := eq_true q349
          have p350 : 0 ≤ (x5_2 : Int) := of_decide_eq_true (by first | (with_reducible assumption) | assumption)
          have q350 : x5_2 < (l1.length : Int) := of_decide_eq_true (by first | (with_reducible assumption) | assumption)
          obtain ⟨ad350, e350, hx350_0, hx350_1⟩ := at_T59 HR1.out x5_2 p350 q350
          cases e350
          replace p350 := eq_true p350
          replace q350 := eq_true q350
          go_wp2
          repeat (go_quiet (fail); try go_wp2)
          go_ret
          exact ⟨by first | rfl | (simp; done) | (simp [*]; done), by repeat (first | exact Drawn0.refl _ | apply Drawn0.step)⟩
         ·rw [if_neg c11] at H
          have c11b0 : (!((((rd_T59 l0 x5_2).f0).toList) == (((rd_T59 l1 x5_2).f0).toList)) || (!((((rd_T59 l0 x5_2).f1).toList) == (((rd_T59 l1 x5_2).f1).toList)))) = false := by simpa using c11
          clear c11
          have H' := Aside0.mk H
          clear H
          have p349 : 0 ≤ (x5_2 : Int) := of_decide_eq_true (by first | (with_reducible assumption) | assumption)
          have q349 : x5_2 < (l0.length : Int) := of_decide_eq_true (by first | (with_reducible assumption) | assumption)
          obtain ⟨ad349, e349, hx349_0, hx349_1⟩ := at_T59 HR0.out x5_2 p349 q349
          cases e349
          replace p349 := eq_true p349
          replace q349 := eq_true q349
          have p350 : 0 ≤ (x5_2 : Int) := of_decide_eq_true (by first | (with_reducible assumption) | assumption)
          have q350 : x5_2 < (l1.length : Int) := of_decide_eq_true (by first | (with_reducible assumption) | assumption)
          obtain ⟨ad350, e350, hx350_0, hx350_1⟩ := at_T59 HR1.out x5_2 p350 q350
          cases e350
          replace p350 := eq_true p350
          replace q350 := eq_true q350
          go_wp2
          repeat (go_quiet (fail); try go_wp2)
          go_roundg k2
          case measure => have := HJ2.out; have := HK2.out; omega
          case rel => exact ⟨(wrap64 (x5_2 + 1)), (by first | rfl | (simp; done) | (simp [*]; done)), H', ⟨by have := HJ2.out; have := HK2.out; omega⟩, by repeat (first | exact Drawn0.refl _ | apply Drawn0.step)⟩
        ·rw [if_neg c10] at H
         exact absurd H (by simp)
       ·rw [if_neg c9] at H
        exact absurd H (by simp)
      ·rw [if_neg c8] at H
       have c8b0 : decide (x5_2 < (l1.length : Int)) = false := decide_eq_false c8
       clear c8
       obtain rfl := Option.some.inj H
       go_wp2
       repeat (go_quiet (fail); try go_wp2)
       go_ret
       exact ⟨by first | rfl | (simp; done) | (simp [*]; done), by repeat (first | exact Drawn0.refl _ | apply Drawn0.step)⟩
end Go.Proofs.Ytacggjhgdkkclaa.PG
namespace Go.Proofs.Ytacggjhgdkkclaa.PG
open Go.Proofs.YtacggjhgdkkclaaF
attribute [local go_sem high] run_feq run_fne run_flt_lt run_flt_le run_flt_gt run_flt_ge
open Go.RowKit Go.Proofs.YtacggjhgdkkclaaW.PrintWords Go.Proofs.YtacggjhgdkkclaaW.PrintLast Go.Proofs.YtacggjhgdkkclaaW.PrintMore
attribute [local go_sem] max2_int min2_int max_two min_two max_three min_three max_four min_four   -- for this text's walks alone
set_option linter.unusedVariables false
set_option linter.unusedSimpArgs false
/-! ### gatehouselaw05_equals: function 21 -/
def gatehouselaw05_equals.f (a0 : Nat) (a1 : Nat) : Option (Bool) := if (feq a0 a1) = true then (some true) else (if (fne a0 a0) = true then (some (fne a1 a1)) else (some false))
set_option maxHeartbeats 8000000 in
set_option maxRecDepth 100000 in
theorem gatehouselaw05_equals.calls (a0 : Nat) (a1 : Nat) (r : Bool) (w : World) (h : gatehouselaw05_equals.f a0 a1 = some r) :
    Calls Try.prog 21 #[.float .f64 a0, .float .f64 a1] w fun e w' => e = .returned (.bool r) ∧ Drawn0 w w' := by
  have H : (if (feq a0 a1) = true then (some true) else (if (fne a0 a0) = true then (some (fne a1 a1)) else (some false))) = some r := h
  clear h
  by_cases c3 : (feq a0 a1) = true
  · rw [if_pos c3] at H
    have c3b0 : (feq a0 a1) = true := c3
    clear c3
    obtain rfl := Option.some.inj H
    go_enter Try.func21, Try.ntmps21
    go_wp2
    go_ret
    exact ⟨by first | rfl | (simp; done) | (simp [*]; done), by repeat (first | exact Drawn0.refl _ | apply Drawn0.step)⟩
  · rw [if_neg c3] at H
    have c3b0 : (feq a0 a1) = false := by simpa using c3
    clear c3
    by_cases c4 : (fne a0 a0) = true
    · rw [if_pos c4] at H
      have c4b0 : (fne a0 a0) = true := c4
      clear c4
      obtain rfl := Option.some.inj H
      go_enter Try.func21, Try.ntmps21
      go_wp2
      go_ret
      exact ⟨by first | rfl | (simp; done) | (simp [*]; done), by repeat (first | exact Drawn0.refl _ | apply Drawn0.step)⟩
    · rw [if_neg c4] at H
      have c4b0 : (fne a0 a0) = false := by simpa using c4
      clear c4
      obtain rfl := Option.some.inj H
      go_enter Try.func21, Try.ntmps21
      go_wp2
      go_ret
      exact ⟨by first | rfl | (simp; done) | (simp [*]; done), by repeat (first | exact Drawn0.refl _ | apply Drawn0.step)⟩
end Go.Proofs.Ytacggjhgdkkclaa.PG
/- Plain facts for gatehouselaw05.Room.untouched. -/
namespace Go.Proofs.Ytacggjhgdkkclaa.KUntP
open Go.RowKit Go.Proofs.YtacggjhgdkkclaaW.PrintWords Go.Proofs.YtacggjhgdkkclaaW.PrintLast Go.Proofs.YtacggjhgdkkclaaW.PrintMore Go.Maps
open Go.Proofs.Ytacggjhgdkkclaa Go.Proofs.Ytacggjhgdkkclaa.PG Go.Proofs.YtacggjhgdkkclaaF Go.Proofs.Ytacggjhgdkkclaa.KBase Go.Proofs.Ytacggjhgdkkclaa.KRoomB
set_option linter.unusedSimpArgs false
abbrev e0 : ByteArray := ⟨#[]⟩
theorem rdOf_app {l m : List ByteArray} {i : Nat} (h : i < l.length) : rdOf ByteArray.empty (l ++ m) (i : Int) = rdOf ByteArray.empty l (i : Int) := by
  simp [rdOf, List.getD_eq_getElem?_getD, List.getElem?_append_left h]
theorem rdOf_last {l : List ByteArray} {x : ByteArray} : rdOf ByteArray.empty (l ++ [x]) (l.length : Int) = x := by
  simp [rdOf, List.getD_eq_getElem?_getD]
theorem asLong_true (l : List ByteArray) (hl : l.length ≤ 1048576) : gatehouselaw05_asLong.f (l.length + 2) (l ++ [sh]) l = some true := by
  have go : ∀ (n i : Nat), i + n = l.length → ∀ q, n < q → gatehouselaw05_asLong.l0 q (l ++ [sh]) l (i : Int) = some true := by
    intro n
    induction n with
    | zero =>
      intro i hi q hq
      obtain ⟨q, rfl⟩ : ∃ m, q = m + 1 := ⟨q - 1, by omega⟩
      simp only [gatehouselaw05_asLong.l0]
      rw [if_neg (by omega)]
    | succ n ih =>
      intro i hi q hq
      obtain ⟨q, rfl⟩ : ∃ m, q = m + 1 := ⟨q - 1, by omega⟩
      have hw : wrap64 ((i : Int) + 1) = ((i + 1 : Nat) : Int) := by unfold wrap64; omega
      simp only [gatehouselaw05_asLong.l0]
      rw [if_pos (by omega), if_pos (by omega), if_pos (by simp; omega), rdOf_app (by omega), if_pos rfl, hw]
      exact ih (i + 1) (by omega) q (by omega)
  have hw : wrap64 ((l.length : Int) + 1) = ((l.length + 1 : Nat) : Int) := by unfold wrap64; omega
  unfold gatehouselaw05_asLong.f
  rw [if_pos (by rw [hw]; simp), if_pos (by omega), if_pos (by simp; omega), rdOf_last]
  show gatehouselaw05_asLong.j0 (l.length + 1 + 1) (l ++ [sh]) l (sh.toList != ([35] : List UInt8)) = some true
  have hb : (sh.toList != ([35] : List UInt8)) = false := by kernel_rfl
  rw [hb]
  simp only [gatehouselaw05_asLong.j0]
  rw [if_neg (by simp)]
  exact go l.length 0 (by omega) _ (by omega)
theorem asLong_go (A A' : Option Addr) (c c' : Nat) (l : List ByteArray) (w : World) (hl : l.length ≤ 1048576) (h : Kd.C Kd.string w A (l ++ [sh]).length (l ++ [sh])) (hc : (l ++ [sh]).length ≤ c) (h' : Kd.C Kd.string w A' l.length l) (hc' : l.length ≤ c') :
    Calls Try.prog 19 #[.slice A (l ++ [sh]).length c, .slice A' l.length c'] w fun e w' => e = .returned (.bool true) ∧ Below w.heap.size w w' :=
  (gatehouselaw05_asLong.calls (l.length + 2) A c (l ++ [sh]) A' c' l true w h hc h' hc' (asLong_true l hl)).mono (fun _ _ hh => ⟨hh.1, hh.2.below⟩)
theorem rd59_app {l m : List S59} {i : Nat} (h : i < l.length) : rd_T59 (l ++ m) (i : Int) = rd_T59 l (i : Int) := by
  simp [rd_T59, List.getD_eq_getElem?_getD, List.getElem?_append_left h]
theorem asPairs_true (l : List S59) (hl : l.length ≤ 1048576) : gatehouselaw05_asPairs.f (l.length + 2) (l ++ [⟨sh, e0⟩]) l = some true := by
  have go : ∀ (n i : Nat), i + n = l.length → ∀ q, n < q → gatehouselaw05_asPairs.l0 q (l ++ [⟨sh, e0⟩]) l (i : Int) = some true := by
    intro n
    induction n with
    | zero =>
      intro i hi q hq
      obtain ⟨q, rfl⟩ : ∃ m, q = m + 1 := ⟨q - 1, by omega⟩
      simp only [gatehouselaw05_asPairs.l0]
      rw [if_neg (by omega)]
    | succ n ih =>
      intro i hi q hq
      obtain ⟨q, rfl⟩ : ∃ m, q = m + 1 := ⟨q - 1, by omega⟩
      have hw : wrap64 ((i : Int) + 1) = ((i + 1 : Nat) : Int) := by unfold wrap64; omega
      simp only [gatehouselaw05_asPairs.l0]
      rw [if_pos (by omega), if_pos (by omega), if_pos (by simp; omega), rd59_app (by omega), if_neg (by simp), hw]
      exact ih (i + 1) (by omega) q (by omega)
  have hw : wrap64 ((l.length : Int) + 1) = ((l.length + 1 : Nat) : Int) := by unfold wrap64; omega
  have hr : rd_T59 (l ++ [⟨sh, e0⟩]) (l.length : Int) = ⟨sh, e0⟩ := by simp [rd_T59, List.getD_eq_getElem?_getD]
  unfold gatehouselaw05_asPairs.f
  rw [if_pos (by rw [hw]; simp), if_pos (by omega), if_pos (by simp; omega), hr]
  have hb : (!((sh.toList) == ([35] : List UInt8)) || (!((e0.toList) == ([] : List UInt8)))) = false := by kernel_rfl
  show gatehouselaw05_asPairs.j0 (l.length + 1 + 1) (l ++ [⟨sh, e0⟩]) l (!((sh.toList) == ([35] : List UInt8)) || (!((e0.toList) == ([] : List UInt8)))) = some true
  rw [hb]
  simp only [gatehouselaw05_asPairs.j0]
  rw [if_neg (by simp)]
  exact go l.length 0 (by omega) _ (by omega)
theorem asPairs_go (A A' : Option Addr) (c c' : Nat) (l : List S59) (w : World) (hl : l.length ≤ 1048576) (h : Kd.C k59 w A (l ++ ([⟨sh, e0⟩] : List S59)).length (l ++ ([⟨sh, e0⟩] : List S59))) (hc : (l ++ ([⟨sh, e0⟩] : List S59)).length ≤ c) (h' : Kd.C k59 w A' l.length l) (hc' : l.length ≤ c') :
    Calls Try.prog 20 #[.slice A (l ++ ([⟨sh, e0⟩] : List S59)).length c, .slice A' l.length c'] w fun e w' => e = .returned (.bool true) ∧ Below w.heap.size w w' :=
  (gatehouselaw05_asPairs.calls (l.length + 2) A c (l ++ ([⟨sh, e0⟩] : List S59)) A' c' l true w h hc h' hc' (asPairs_true l hl)).mono (fun _ _ hh => ⟨hh.1, hh.2.below⟩)
theorem equals_go (x : Nat) (w : World) : Calls Try.prog 21 #[.float .f64 x, .float .f64 x] w fun e w' => e = .returned (.bool true) ∧ Below w.heap.size w w' :=
  (gatehouselaw05_equals.calls x x true w (by
    unfold gatehouselaw05_equals.f
    by_cases h : feq x x = true
    · rw [if_pos h]
    · rw [if_neg h]
      have h2 : fne x x = true := by
        unfold feq at h
        unfold fne
        simpa using h
      rw [if_pos h2, h2])).mono (fun _ _ hh => ⟨hh.1, hh.2.below⟩)
end Go.Proofs.Ytacggjhgdkkclaa.KUntP
