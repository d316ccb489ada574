/- Several texts of this session in one file, in their build order: PGraphDecidex1, DecPure, CPure, PGx35, CBits, GBlk, CClasses, MSubj, MAbout, PGx29, PGx1, PGx30, PGx31, MAllowsPure, MAllow, PGx34, MIdx. -/
import Derived.Test.YthaiodklfoegiaaZOne1
import Derived.Deep.OwnRows
import Derived.Laws.MakeOwn
import Derived.Deep.MidRow
-- PRINTED BY print.sh 35421559b90ae4d0a3588c463048766b98c2df88dd9212a6774a882060cdf62d: not written by this session
namespace Go.Proofs.Ythaiodklfoegiaa.PGraphDecide
open Go.RowKit Go.Proofs.YthaiodklfoegiaaW.PrintWords Go.Proofs.YthaiodklfoegiaaW.PrintLast Go.Proofs.YthaiodklfoegiaaW.PrintMore
attribute [local go_sem] max2_int min2_int max_two min_two max_three min_three max_four min_four   -- for this text's walks alone
set_option linter.unusedVariables false
set_option linter.unusedSimpArgs false

/-! ### graph_at: function 30 -/
def graph_at.f (l0 : List Int) (a1 : Int) : Option (Int) := if a1 < 0 then (some (-1)) else (if a1 ≥ (l0.length : Int) then (some (-1)) else (if 0 ≤ a1 then (if a1 < (l0.length : Int) then (some (wrap64 ((rd l0 a1) - 1))) else (none)) else (none)))
set_option maxHeartbeats 8000000 in
set_option maxRecDepth 100000 in
theorem graph_at.calls (A0 : Option Addr) (c0 : Nat) (l0 : List Int) (a1 : Int) (r : Int) (w : World) (hr0 : Kd.C (Kd.int .i64) w A0 l0.length l0) (hc0 : l0.length ≤ c0) (h : graph_at.f l0 a1 = some r) :
    Calls Try.prog 30 #[.slice A0 l0.length c0, .int .i64 a1] w fun e w' => e = .returned (.int .i64 r) ∧ Drawn0 w w' := by
  have HR0 := Aside0.mk hr0
  have HC0 := Aside0.mk hc0
  clear hr0 hc0
  have H : (if a1 < 0 then (some (-1)) else (if a1 ≥ (l0.length : Int) then (some (-1)) else (if 0 ≤ a1 then (if a1 < (l0.length : Int) then (some (wrap64 ((rd l0 a1) - 1))) else (none)) else (none)))) = some r := h
  clear h
  by_cases c3 : a1 < 0
  · rw [if_pos c3] at H
    have c3b0 : decide (a1 < 0) = true := decide_eq_true c3
    clear c3
    obtain rfl := Option.some.inj H
    go_enter Try.func30, Try.ntmps30
    go_wp2
    go_ret
    exact ⟨by first | rfl | (simp; done) | (simp [*]; done), by repeat (first | exact Drawn0.refl _ | apply Drawn0.step)⟩
  · rw [if_neg c3] at H
    have c3b0 : decide (a1 < 0) = false := decide_eq_false c3
    clear c3
    by_cases c4 : a1 ≥ (l0.length : Int)
    · rw [if_pos c4] at H
      have c4b0 : decide ((l0.length : Int) ≤ a1) = true := decide_eq_true c4
      clear c4
      obtain rfl := Option.some.inj H
      go_enter Try.func30, Try.ntmps30
      go_wp2
      go_ret
      exact ⟨by first | rfl | (simp; done) | (simp [*]; done), by repeat (first | exact Drawn0.refl _ | apply Drawn0.step)⟩
    · rw [if_neg c4] at H
      have c4b0 : decide ((l0.length : Int) ≤ a1) = false := decide_eq_false c4
      clear c4
      by_cases c5 : 0 ≤ a1
      · rw [if_pos c5] at H
        have c5b0 : decide (0 ≤ a1) = true := decide_eq_true c5
        clear c5
        by_cases c6 : a1 < (l0.length : Int)
        · rw [if_pos c6] at H
          have c6b0 : decide (a1 < (l0.length : Int)) = true := decide_eq_true c6
          clear c6
          obtain rfl := Option.some.inj H
          have p101 : 0 ≤ (a1 : Int) := of_decide_eq_true (by first | (with_reducible assumption) | assumption)
          have q101 : a1 < (l0.length : Int) := of_decide_eq_true (by first | (with_reducible assumption) | assumption)
          obtain ⟨ad101, e101, hx101_0⟩ := Kd.at_int HR0.out a1 p101 q101
          cases e101
          replace p101 := eq_true p101
          replace q101 := eq_true q101
          go_enter Try.func30, Try.ntmps30
          go_wp2
          go_ret
          exact ⟨by first | rfl | (simp; done) | (simp [*]; done), by repeat (first | exact Drawn0.refl _ | apply Drawn0.step)⟩
        · rw [if_neg c6] at H
          exact absurd H (by simp)
      · rw [if_neg c5] at H
        exact absurd H (by simp)

/-! ### slices_Index_string_string: function 31 -/
def slices_Index_string_string.l0 : Nat → List ByteArray → ByteArray → Int → Int → Option (Int)
  | 0, _, _, _, _ => none
  | k + 1, x0, x1, x7, x8 => if x8 < x7 then (if 0 ≤ x8 then (if x8 < (x0.length : Int) then (if x1.toList = (rdOf ByteArray.empty x0 x8).toList then (some x8) else (slices_Index_string_string.l0 k x0 x1 x7 (wrap64 (x8 + 1)))) else (none)) else (none)) else (some (-1))
def slices_Index_string_string.f (k : Nat) (l0 : List ByteArray) (a1 : ByteArray) : Option (Int) := slices_Index_string_string.l0 k l0 a1 (l0.length : Int) 0
theorem slices_Index_string_string.mono_l : ∀ k, (∀ y0 y1 y2 y3, LeO (slices_Index_string_string.l0 k y0 y1 y2 y3) (slices_Index_string_string.l0 (k + 1) y0 y1 y2 y3))
  | 0 => fun _ _ _ _ r h => by simp [slices_Index_string_string.l0] at h
  | k + 1 => by
    have ih0 := slices_Index_string_string.mono_l k
    · intro y0 y1 y2 y3
      unfold slices_Index_string_string.l0
      repeat' first
      | (with_reducible exact ih0 _ _ _ _)
      | (with_reducible exact LeO.refl _)
      | (with_reducible exact LeO.none _)
      | (with_reducible refine LeO.ite ?_ ?_)
      | (with_reducible refine LeO.bind ?_ (fun _ => ?_))
      | exact ih0 _ _ _ _
      | exact LeO.none _
      | refine LeO.ite ?_ ?_
      | refine LeO.bind ?_ (fun _ => ?_)
theorem slices_Index_string_string.mono : ∀ a0 a1 k, LeO (slices_Index_string_string.f k a0 a1) (slices_Index_string_string.f (k + 1) a0 a1) := by
  intro a0 a1 k
  have ih0 := slices_Index_string_string.mono_l k
  unfold slices_Index_string_string.f
  repeat' first
      | (with_reducible exact ih0 _ _ _ _)
      | (with_reducible exact LeO.refl _)
      | (with_reducible exact LeO.none _)
      | (with_reducible refine LeO.ite ?_ ?_)
      | (with_reducible refine LeO.bind ?_ (fun _ => ?_))
      | exact ih0 _ _ _ _
      | exact LeO.none _
      | refine LeO.ite ?_ ?_
      | refine LeO.bind ?_ (fun _ => ?_)
set_option maxHeartbeats 8000000 in
set_option maxRecDepth 100000 in
theorem slices_Index_string_string.calls (k : Nat) (A0 : Option Addr) (c0 : Nat) (l0 : List ByteArray) (a1 : ByteArray) (r : Int) (w : World) (hr0 : Kd.C Kd.string w A0 l0.length l0) (hc0 : l0.length ≤ c0) (h : slices_Index_string_string.f k l0 a1 = some r) :
    Calls Try.prog 31 #[.slice A0 l0.length c0, .string a1] w fun e w' => e = .returned (.int .i64 r) ∧ Drawn0 w w' := by
  have HR0 := Aside0.mk hr0
  have HC0 := Aside0.mk hc0
  clear hr0 hc0
  have H : (slices_Index_string_string.l0 k l0 a1 (l0.length : Int) 0) = some r := h
  clear h
  have H' := Aside0.mk H
  clear H
  go_enter Try.func31, Try.ntmps31
  go_wp2
  go_loopg [8] k (fun kq v8 w' => ∃ (x8_1 : Int), v8 = .int .i64 x8_1 ∧ Aside0 (slices_Index_string_string.l0 kq l0 a1 (l0.length : Int) x8_1 = some r) ∧ Aside0 (kq ≤ k) ∧ Drawn0 w w')
  case atStart => exact ⟨(0), (by first | rfl | (simp; done) | (simp [*]; done)), H', ⟨Nat.le_refl _⟩, by repeat (first | exact Drawn0.refl _ | apply Drawn0.step)⟩
  case round =>
    clear H'
    try clear p2
    obtain ⟨x8_1, rfl, HA, HK1, ⟨m1, rfl⟩⟩ := hrel
    cases gk with
    | zero => exact absurd HA.out (by simp [slices_Index_string_string.l0])
    | succ k1 =>
      have H := HA.out
      clear HA
      simp only [slices_Index_string_string.l0] at H
      by_cases c3 : x8_1 < (l0.length : Int)
      · rw [if_pos c3] at H
        have c3b0 : decide (x8_1 < (l0.length : Int)) = true := decide_eq_true c3
        clear c3
        by_cases c4 : 0 ≤ x8_1
        · rw [if_pos c4] at H
          have c4b0 : decide (0 ≤ x8_1) = true := decide_eq_true c4
          clear c4
          by_cases c5 : x8_1 < (l0.length : Int)
          · rw [if_pos c5] at H
            have c5b0 : decide (x8_1 < (l0.length : Int)) = true := decide_eq_true c5
            clear c5
            by_cases c6 : a1.toList = (rdOf ByteArray.empty l0 x8_1).toList
            · rw [if_pos c6] at H
              have c6b0 : (a1.toList == (rdOf ByteArray.empty l0 x8_1).toList) = true := beq_iff_eq.mpr c6
              have c6b1 : (a1.toList != (rdOf ByteArray.empty l0 x8_1).toList) = false := bne_eq_false_iff_eq.mpr c6
              clear c6
              obtain rfl := Option.some.inj H
              have p102 : 0 ≤ (x8_1 : Int) := of_decide_eq_true (by first | (with_reducible assumption) | assumption)
              have q102 : x8_1 < (l0.length : Int) := of_decide_eq_true (by first | (with_reducible assumption) | assumption)
              obtain ⟨ad102, e102, hx102_0⟩ := Kd.at_string HR0.out x8_1 p102 q102
              cases e102
              replace p102 := eq_true p102
              replace q102 := eq_true q102
              go_wp2
              go_ret
              exact ⟨by first | rfl | (simp; done) | (simp [*]; done), by repeat (first | exact Drawn0.refl _ | apply Drawn0.step)⟩
            · rw [if_neg c6] at H
              have c6b0 : (a1.toList == (rdOf ByteArray.empty l0 x8_1).toList) = false := beq_eq_false_iff_ne.mpr c6
              have c6b1 : (a1.toList != (rdOf ByteArray.empty l0 x8_1).toList) = true := bne_iff_ne.mpr c6
              have H' := Aside0.mk H
              clear H
              have p102 : 0 ≤ (x8_1 : Int) := of_decide_eq_true (by first | (with_reducible assumption) | assumption)
              have q102 : x8_1 < (l0.length : Int) := of_decide_eq_true (by first | (with_reducible assumption) | assumption)
              obtain ⟨ad102, e102, hx102_0⟩ := Kd.at_string HR0.out x8_1 p102 q102
              cases e102
              replace p102 := eq_true p102
              replace q102 := eq_true q102
              go_wp2
              go_roundg k1
              case measure => have := HK1.out; omega
              case rel => exact ⟨(wrap64 (x8_1 + 1)), (by first | rfl | (simp; done) | (simp [*]; done)), H', ⟨by have := HK1.out; omega⟩, by repeat (first | exact Drawn0.refl _ | apply Drawn0.step)⟩
          · rw [if_neg c5] at H
            exact absurd H (by simp)
        · rw [if_neg c4] at H
          exact absurd H (by simp)
      · rw [if_neg c3] at H
        have c3b0 : decide (x8_1 < (l0.length : Int)) = false := decide_eq_false c3
        clear c3
        obtain rfl := Option.some.inj H
        go_wp2
        go_ret
        exact ⟨by first | rfl | (simp; done) | (simp [*]; done), by repeat (first | exact Drawn0.refl _ | apply Drawn0.step)⟩

/-! ### graph_Decide: function 10 -/
def graph_Decide.f (k : Nat) (l0_0 : List ByteArray) (l0_1 : List ByteArray) (l0_2 : List ByteArray) (l0_3 : List Int) (l0_4 : List Int) (l0_5 : List (List Int)) (a1_0 : ByteArray) (a1_1 : ByteArray) (a1_2 : ByteArray) : Option (Bool) := (slices_Index_string_string.f k l0_1 a1_0).bind fun t105 => ((graph_at.f l0_3 t105).bind fun t106 => ((slices_Index_string_string.f k l0_2 a1_1).bind fun t107 => ((graph_at.f l0_4 t107).bind fun t108 => ((slices_Index_string_string.f k l0_0 a1_2).bind fun t109 => (if t106 < 0 then (some false) else (if t106 ≥ (l0_5.length : Int) then (some false) else (if t108 < 0 then (some false) else (if 0 ≤ t106 then (if t106 < (l0_5.length : Int) then (if t108 ≥ ((rd_L3 l0_5 t106).length : Int) then (some false) else (if t109 < 0 then (some false) else (if t109 ≥ 16 then (some false) else (if 0 ≤ t108 then (if t108 < ((rd_L3 l0_5 t106).length : Int) then (if 0 ≤ t109 then (some ((Go.bits .andNot .u16 (rd (rd_L3 l0_5 t106) t108) (shl .u16 1 t109)) != (rd (rd_L3 l0_5 t106) t108))) else (none)) else (none)) else (none))))) else (none)) else (none)))))))))
theorem graph_Decide.mono : ∀ a0 a1 a2 a3 a4 a5 a6 a7 a8 k, LeO (graph_Decide.f k a0 a1 a2 a3 a4 a5 a6 a7 a8) (graph_Decide.f (k + 1) a0 a1 a2 a3 a4 a5 a6 a7 a8) := by
  intro a0 a1 a2 a3 a4 a5 a6 a7 a8 k
  unfold graph_Decide.f
  repeat' first
      | (with_reducible exact slices_Index_string_string.mono _ _ _)
      | (with_reducible exact LeO.refl _)
      | (with_reducible exact LeO.none _)
      | (with_reducible refine LeO.ite ?_ ?_)
      | (with_reducible refine LeO.bind ?_ (fun _ => ?_))
      | exact slices_Index_string_string.mono _ _ _
      | exact LeO.none _
      | refine LeO.ite ?_ ?_
      | refine LeO.bind ?_ (fun _ => ?_)
set_option maxHeartbeats 8000000 in
set_option maxRecDepth 100000 in
theorem graph_Decide.calls (k : Nat) (A0_0 : Option Addr) (c0_0 : Nat) (l0_0 : List ByteArray) (A0_1 : Option Addr) (c0_1 : Nat) (l0_1 : List ByteArray) (A0_2 : Option Addr) (c0_2 : Nat) (l0_2 : List ByteArray) (A0_3 : Option Addr) (c0_3 : Nat) (l0_3 : List Int) (A0_4 : Option Addr) (c0_4 : Nat) (l0_4 : List Int) (A0_5 : Option Addr) (c0_5 : Nat) (l0_5 : List (List Int)) (a1_0 : ByteArray) (a1_1 : ByteArray) (a1_2 : ByteArray) (r : Bool) (w : World) (hr0_0 : Kd.C Kd.string w A0_0 l0_0.length l0_0) (hc0_0 : l0_0.length ≤ c0_0) (hr0_1 : Kd.C Kd.string w A0_1 l0_1.length l0_1) (hc0_1 : l0_1.length ≤ c0_1) (hr0_2 : Kd.C Kd.string w A0_2 l0_2.length l0_2) (hc0_2 : l0_2.length ≤ c0_2) (hr0_3 : Kd.C (Kd.int .i64) w A0_3 l0_3.length l0_3) (hc0_3 : l0_3.length ≤ c0_3) (hr0_4 : Kd.C (Kd.int .i64) w A0_4 l0_4.length l0_4) (hc0_4 : l0_4.length ≤ c0_4) (hr0_5 : Kd.C (Kd.slice 31 (Kd.int .u16)) w A0_5 l0_5.length l0_5) (hc0_5 : l0_5.length ≤ c0_5) (h : graph_Decide.f k l0_0 l0_1 l0_2 l0_3 l0_4 l0_5 a1_0 a1_1 a1_2 = some r) :
    Calls Try.prog 10 #[.agg #[.slice A0_0 l0_0.length c0_0, .slice A0_1 l0_1.length c0_1, .slice A0_2 l0_2.length c0_2, .slice A0_3 l0_3.length c0_3, .slice A0_4 l0_4.length c0_4, .slice A0_5 l0_5.length c0_5], .agg #[.string a1_0, .string a1_1, .string a1_2]] w fun e w' => e = .returned (.bool r) ∧ Below w.heap.size w w' := by
  have hu26 := Try.underlying26
  have hu28 := Try.underlying28
  have HR0_0 := Aside0.mk hr0_0
  have HC0_0 := Aside0.mk hc0_0
  clear hr0_0 hc0_0
  have HR0_1 := Aside0.mk hr0_1
  have HC0_1 := Aside0.mk hc0_1
  clear hr0_1 hc0_1
  have HR0_2 := Aside0.mk hr0_2
  have HC0_2 := Aside0.mk hc0_2
  clear hr0_2 hc0_2
  have HR0_3 := Aside0.mk hr0_3
  have HC0_3 := Aside0.mk hc0_3
  clear hr0_3 hc0_3
  have HR0_4 := Aside0.mk hr0_4
  have HC0_4 := Aside0.mk hc0_4
  clear hr0_4 hc0_4
  have HR0_5 := Aside0.mk hr0_5
  have HC0_5 := Aside0.mk hc0_5
  clear hr0_5 hc0_5
  have HB := Aside0.mk (Below.refl w.heap.size w)
  have H : ((slices_Index_string_string.f k l0_1 a1_0).bind fun t105 => ((graph_at.f l0_3 t105).bind fun t106 => ((slices_Index_string_string.f k l0_2 a1_1).bind fun t107 => ((graph_at.f l0_4 t107).bind fun t108 => ((slices_Index_string_string.f k l0_0 a1_2).bind fun t109 => (if t106 < 0 then (some false) else (if t106 ≥ (l0_5.length : Int) then (some false) else (if t108 < 0 then (some false) else (if 0 ≤ t106 then (if t106 < (l0_5.length : Int) then (if t108 ≥ ((rd_L3 l0_5 t106).length : Int) then (some false) else (if t109 < 0 then (some false) else (if t109 ≥ 16 then (some false) else (if 0 ≤ t108 then (if t108 < ((rd_L3 l0_5 t106).length : Int) then (if 0 ≤ t109 then (some ((Go.bits .andNot .u16 (rd (rd_L3 l0_5 t106) t108) (shl .u16 1 t109)) != (rd (rd_L3 l0_5 t106) t108))) else (none)) else (none)) else (none))))) else (none)) else (none)))))))))) = some r := h
  clear h
  replace H := Option.bind_eq_some_iff.mp H
  obtain ⟨t105, A30, H⟩ := H
  replace H : ((graph_at.f l0_3 t105).bind fun t106 => ((slices_Index_string_string.f k l0_2 a1_1).bind fun t107 => ((graph_at.f l0_4 t107).bind fun t108 => ((slices_Index_string_string.f k l0_0 a1_2).bind fun t109 => (if t106 < 0 then (some false) else (if t106 ≥ (l0_5.length : Int) then (some false) else (if t108 < 0 then (some false) else (if 0 ≤ t106 then (if t106 < (l0_5.length : Int) then (if t108 ≥ ((rd_L3 l0_5 t106).length : Int) then (some false) else (if t109 < 0 then (some false) else (if t109 ≥ 16 then (some false) else (if 0 ≤ t108 then (if t108 < ((rd_L3 l0_5 t106).length : Int) then (if 0 ≤ t109 then (some ((Go.bits .andNot .u16 (rd (rd_L3 l0_5 t106) t108) (shl .u16 1 t109)) != (rd (rd_L3 l0_5 t106) t108))) else (none)) else (none)) else (none))))) else (none)) else (none))))))))) = some r := H
  have A3 := Aside0.mk A30
  clear A30
  replace H := Option.bind_eq_some_iff.mp H
  obtain ⟨t106, A40, H⟩ := H
  replace H : ((slices_Index_string_string.f k l0_2 a1_1).bind fun t107 => ((graph_at.f l0_4 t107).bind fun t108 => ((slices_Index_string_string.f k l0_0 a1_2).bind fun t109 => (if t106 < 0 then (some false) else (if t106 ≥ (l0_5.length : Int) then (some false) else (if t108 < 0 then (some false) else (if 0 ≤ t106 then (if t106 < (l0_5.length : Int) then (if t108 ≥ ((rd_L3 l0_5 t106).length : Int) then (some false) else (if t109 < 0 then (some false) else (if t109 ≥ 16 then (some false) else (if 0 ≤ t108 then (if t108 < ((rd_L3 l0_5 t106).length : Int) then (if 0 ≤ t109 then (some ((Go.bits .andNot .u16 (rd (rd_L3 l0_5 t106) t108) (shl .u16 1 t109)) != (rd (rd_L3 l0_5 t106) t108))) else (none)) else (none)) else (none))))) else (none)) else (none)))))))) = some r := H
  have A4 := Aside0.mk A40
  clear A40
  replace H := Option.bind_eq_some_iff.mp H
  obtain ⟨t107, A50, H⟩ := H
  replace H : ((graph_at.f l0_4 t107).bind fun t108 => ((slices_Index_string_string.f k l0_0 a1_2).bind fun t109 => (if t106 < 0 then (some false) else (if t106 ≥ (l0_5.length : Int) then (some false) else (if t108 < 0 then (some false) else (if 0 ≤ t106 then (if t106 < (l0_5.length : Int) then (if t108 ≥ ((rd_L3 l0_5 t106).length : Int) then (some false) else (if t109 < 0 then (some false) else (if t109 ≥ 16 then (some false) else (if 0 ≤ t108 then (if t108 < ((rd_L3 l0_5 t106).length : Int) then (if 0 ≤ t109 then (some ((Go.bits .andNot .u16 (rd (rd_L3 l0_5 t106) t108) (shl .u16 1 t109)) != (rd (rd_L3 l0_5 t106) t108))) else (none)) else (none)) else (none))))) else (none)) else (none))))))) = some r := H
  have A5 := Aside0.mk A50
  clear A50
  replace H := Option.bind_eq_some_iff.mp H
  obtain ⟨t108, A60, H⟩ := H
  replace H : ((slices_Index_string_string.f k l0_0 a1_2).bind fun t109 => (if t106 < 0 then (some false) else (if t106 ≥ (l0_5.length : Int) then (some false) else (if t108 < 0 then (some false) else (if 0 ≤ t106 then (if t106 < (l0_5.length : Int) then (if t108 ≥ ((rd_L3 l0_5 t106).length : Int) then (some false) else (if t109 < 0 then (some false) else (if t109 ≥ 16 then (some false) else (if 0 ≤ t108 then (if t108 < ((rd_L3 l0_5 t106).length : Int) then (if 0 ≤ t109 then (some ((Go.bits .andNot .u16 (rd (rd_L3 l0_5 t106) t108) (shl .u16 1 t109)) != (rd (rd_L3 l0_5 t106) t108))) else (none)) else (none)) else (none))))) else (none)) else (none)))))) = some r := H
  have A6 := Aside0.mk A60
  clear A60
  replace H := Option.bind_eq_some_iff.mp H
  obtain ⟨t109, A70, H⟩ := H
  replace H : (if t106 < 0 then (some false) else (if t106 ≥ (l0_5.length : Int) then (some false) else (if t108 < 0 then (some false) else (if 0 ≤ t106 then (if t106 < (l0_5.length : Int) then (if t108 ≥ ((rd_L3 l0_5 t106).length : Int) then (some false) else (if t109 < 0 then (some false) else (if t109 ≥ 16 then (some false) else (if 0 ≤ t108 then (if t108 < ((rd_L3 l0_5 t106).length : Int) then (if 0 ≤ t109 then (some ((Go.bits .andNot .u16 (rd (rd_L3 l0_5 t106) t108) (shl .u16 1 t109)) != (rd (rd_L3 l0_5 t106) t108))) else (none)) else (none)) else (none))))) else (none)) else (none))))) = some r := H
  have A7 := Aside0.mk A70
  clear A70
  by_cases c8 : t106 < 0
  · rw [if_pos c8] at H
    have c8b0 : decide (t106 < 0) = true := decide_eq_true c8
    clear c8
    obtain rfl := Option.some.inj H
    go_enter Try.func10, Try.ntmps10
    go_wp2_with (first | ((with_reducible refine gate_dst (N := 2) rfl ?_); (try (refine gate_guard (by rfl) ?_; dsimp only)); refine box_event ?hg (N := 2) ?hd (cs := #[.slice A0_0 l0_0.length c0_0, .slice A0_1 l0_1.length c0_1, .slice A0_2 l0_2.length c0_2, .slice A0_3 l0_3.length c0_3, .slice A0_4 l0_4.length c0_4, .slice A0_5 l0_5.length c0_5]) (t := 26) ?hr ?_; (case hd => rfl); (case hg => rfl); (case hr => first | (go_simp; done) | (go_simp; rfl)); intro gb103 hg w9 hbox hb; have n0_ := Aside0.mk (below_step (by repeat (first | (with_reducible first | exact HB.out | apply below_alloc | apply pw_below_drewN | apply below_drew1) | exact HB.out)) hb); have n1_ := Aside0.mk (hbox); have n2_ := Aside0.mk ((by rw [hg]; exact (below_size (by repeat (first | (with_reducible first | exact HB.out | apply below_alloc | apply pw_below_drewN | apply below_drew1) | exact HB.out))) : w.heap.size ≤ gb103)); have n3_ := Aside0.mk ((by rw [hg]; exact (below_size (by repeat (first | (with_reducible first | exact HB.out | apply below_alloc | apply pw_below_drewN | apply below_drew1) | exact HB.out))) : w.heap.size ≤ gb103)); clear HB; have HB := n0_; have BK103 := n1_; have GW103 := n2_; have GE103 := n3_; clear n0_ n1_ n2_ n3_; clear hb hbox hg) | ((with_reducible refine gate_dst (N := 3) rfl ?_); (try (refine gate_guard (by rfl) ?_; dsimp only)); refine box_event ?hg (N := 3) ?hd (cs := #[.string a1_0, .string a1_1, .string a1_2]) (t := 28) ?hr ?_; (case hd => rfl); (case hg => rfl); (case hr => first | (go_simp; done) | (go_simp; rfl)); intro gb104 hg w10 hbox hb; have n0_ := Aside0.mk (blk_below (g := gb103) (o := .cells #[.slice A0_0 l0_0.length c0_0, .slice A0_1 l0_1.length c0_1, .slice A0_2 l0_2.length c0_2, .slice A0_3 l0_3.length c0_3, .slice A0_4 l0_4.length c0_4, .slice A0_5 l0_5.length c0_5] 26 (0, 0)) (by (with_reducible repeat (first | refine blk_drewN ?_ _ | refine blk_drew ?_ | refine blk_alloc ?_ _)); exact BK103.out) hb); have n1_ := Aside0.mk (below_step (by repeat (first | (with_reducible first | exact HB.out | apply below_alloc | apply pw_below_drewN | apply below_drew1 | refine below_set ?_ GE103.out) | exact HB.out)) hb); have n2_ := Aside0.mk (hbox); have n3_ := Aside0.mk ((by rw [hg]; exact (below_size (by repeat (first | (with_reducible first | exact HB.out | apply below_alloc | apply pw_below_drewN | apply below_drew1 | refine below_set ?_ GE103.out) | exact HB.out))) : w.heap.size ≤ gb104)); have n4_ := Aside0.mk ((by rw [hg]; exact (below_size (by repeat (first | (with_reducible first | exact HB.out | apply below_alloc | apply pw_below_drewN | apply below_drew1 | refine below_set ?_ GE103.out) | exact HB.out))) : w.heap.size ≤ gb104)); have n5_ := Aside0.mk ((by rw [hg]; exact Nat.ne_of_lt (blk_lt (g := gb103) (o := .cells #[.slice A0_0 l0_0.length c0_0, .slice A0_1 l0_1.length c0_1, .slice A0_2 l0_2.length c0_2, .slice A0_3 l0_3.length c0_3, .slice A0_4 l0_4.length c0_4, .slice A0_5 l0_5.length c0_5] 26 (0, 0)) (by (with_reducible repeat (first | refine blk_drewN ?_ _ | refine blk_drew ?_ | refine blk_alloc ?_ _)); exact BK103.out)) : gb103 ≠ gb104)); have n6_ := Aside0.mk ((by rw [hg]; exact Nat.ne_of_gt (blk_lt (g := gb103) (o := .cells #[.slice A0_0 l0_0.length c0_0, .slice A0_1 l0_1.length c0_1, .slice A0_2 l0_2.length c0_2, .slice A0_3 l0_3.length c0_3, .slice A0_4 l0_4.length c0_4, .slice A0_5 l0_5.length c0_5] 26 (0, 0)) (by (with_reducible repeat (first | refine blk_drewN ?_ _ | refine blk_drew ?_ | refine blk_alloc ?_ _)); exact BK103.out)) : gb104 ≠ gb103)); clear BK103; clear HB; have BK103 := n0_; have HB := n1_; have BK104 := n2_; have GW104 := n3_; have GE104 := n4_; have NB103_104 := n5_; have NB104_103 := n6_; clear n0_ n1_ n2_ n3_ n4_ n5_ n6_; clear hb hbox hg; have hnb11 := NB103_104.out; have hnc11 := NB104_103.out; have hcz12_0 : w10.cell? ⟨gb103, 0, none⟩ = some (.slice A0_0 l0_0.length c0_0) := (blk_cell BK103.out 0).trans rfl; have hcz12_1 : w10.cell? ⟨gb103, 1, none⟩ = some (.slice A0_1 l0_1.length c0_1) := (blk_cell BK103.out 1).trans rfl; have hcz12_2 : w10.cell? ⟨gb103, 2, none⟩ = some (.slice A0_2 l0_2.length c0_2) := (blk_cell BK103.out 2).trans rfl; have hcz12_3 : w10.cell? ⟨gb103, 3, none⟩ = some (.slice A0_3 l0_3.length c0_3) := (blk_cell BK103.out 3).trans rfl; have hcz12_4 : w10.cell? ⟨gb103, 4, none⟩ = some (.slice A0_4 l0_4.length c0_4) := (blk_cell BK103.out 4).trans rfl; have hcz12_5 : w10.cell? ⟨gb103, 5, none⟩ = some (.slice A0_5 l0_5.length c0_5) := (blk_cell BK103.out 5).trans rfl; have hfz12_0 := blk_frozen BK103.out 0; have hfz12_1 := blk_frozen BK103.out 1; have hfz12_2 := blk_frozen BK103.out 2; have hfz12_3 := blk_frozen BK103.out 3; have hfz12_4 := blk_frozen BK103.out 4; have hfz12_5 := blk_frozen BK103.out 5; have hcz13_0 : w10.cell? ⟨gb104, 0, none⟩ = some (.string a1_0) := (blk_cell BK104.out 0).trans rfl; have hcz13_1 : w10.cell? ⟨gb104, 1, none⟩ = some (.string a1_1) := (blk_cell BK104.out 1).trans rfl; have hcz13_2 : w10.cell? ⟨gb104, 2, none⟩ = some (.string a1_2) := (blk_cell BK104.out 2).trans rfl; have hfz13_0 := blk_frozen BK104.out 0; have hfz13_1 := blk_frozen BK104.out 1; have hfz13_2 := blk_frozen BK104.out 2))
    repeat (go_quiet (first | (go_at_call 31; (with_reducible refine (slices_Index_string_string.calls k _ _ l0_1 a1_0 t105 _ ?side1 ?side2 A3.out).mono ?_); (case side1 => repeat (first | exact (Kd.C_below HR0_1.out HB.out) | (with_reducible refine Kd.C_alloc ?_ _) | (with_reducible refine Kd.C_drewN ?_ _) | (with_reducible refine Kd.C_drew ?_))); (case side2 => exact HC0_1.out); rintro e w' ⟨rfl, ⟨nd, rfl⟩⟩; (try first | exact ⟨rfl, _, World.drewN_drewN _ _ _⟩ | exact ⟨rfl, _, Eq.trans (World.drewN_drewN _ _ _) (congrArg (World.drewN _) (Nat.add_assoc _ _ _))⟩)) | (go_at_call 30; (with_reducible refine (graph_at.calls _ _ l0_3 t105 t106 _ ?side1 ?side2 A4.out).mono ?_); (case side1 => repeat (first | exact (Kd.C_below HR0_3.out (by repeat (first | (with_reducible first | exact HB.out | apply below_alloc | apply pw_below_drewN | apply below_drew1 | refine below_set ?_ GE103.out | refine below_set ?_ GE104.out) | exact HB.out))) | (with_reducible refine Kd.C_alloc ?_ _) | (with_reducible refine Kd.C_drewN ?_ _) | (with_reducible refine Kd.C_drew ?_))); (case side2 => exact HC0_3.out); rintro e w' ⟨rfl, ⟨nd, rfl⟩⟩; (try first | exact ⟨rfl, _, World.drewN_drewN _ _ _⟩ | exact ⟨rfl, _, Eq.trans (World.drewN_drewN _ _ _) (congrArg (World.drewN _) (Nat.add_assoc _ _ _))⟩)) | (go_at_call 31; (with_reducible refine (slices_Index_string_string.calls k _ _ l0_2 a1_1 t107 _ ?side1 ?side2 A5.out).mono ?_); (case side1 => repeat (first | exact (Kd.C_below HR0_2.out (by repeat (first | (with_reducible first | exact HB.out | apply below_alloc | apply pw_below_drewN | apply below_drew1 | refine below_set ?_ GE103.out | refine below_set ?_ GE104.out) | exact HB.out))) | (with_reducible refine Kd.C_alloc ?_ _) | (with_reducible refine Kd.C_drewN ?_ _) | (with_reducible refine Kd.C_drew ?_))); (case side2 => exact HC0_2.out); rintro e w' ⟨rfl, ⟨nd, rfl⟩⟩; (try first | exact ⟨rfl, _, World.drewN_drewN _ _ _⟩ | exact ⟨rfl, _, Eq.trans (World.drewN_drewN _ _ _) (congrArg (World.drewN _) (Nat.add_assoc _ _ _))⟩)) | (go_at_call 30; (with_reducible refine (graph_at.calls _ _ l0_4 t107 t108 _ ?side1 ?side2 A6.out).mono ?_); (case side1 => repeat (first | exact (Kd.C_below HR0_4.out (by repeat (first | (with_reducible first | exact HB.out | apply below_alloc | apply pw_below_drewN | apply below_drew1 | refine below_set ?_ GE103.out | refine below_set ?_ GE104.out) | exact HB.out))) | (with_reducible refine Kd.C_alloc ?_ _) | (with_reducible refine Kd.C_drewN ?_ _) | (with_reducible refine Kd.C_drew ?_))); (case side2 => exact HC0_4.out); rintro e w' ⟨rfl, ⟨nd, rfl⟩⟩; (try first | exact ⟨rfl, _, World.drewN_drewN _ _ _⟩ | exact ⟨rfl, _, Eq.trans (World.drewN_drewN _ _ _) (congrArg (World.drewN _) (Nat.add_assoc _ _ _))⟩)) | (go_at_call 31; (with_reducible refine (slices_Index_string_string.calls k _ _ l0_0 a1_2 t109 _ ?side1 ?side2 A7.out).mono ?_); (case side1 => repeat (first | exact (Kd.C_below HR0_0.out (by repeat (first | (with_reducible first | exact HB.out | apply below_alloc | apply pw_below_drewN | apply below_drew1 | refine below_set ?_ GE103.out | refine below_set ?_ GE104.out) | exact HB.out))) | (with_reducible refine Kd.C_alloc ?_ _) | (with_reducible refine Kd.C_drewN ?_ _) | (with_reducible refine Kd.C_drew ?_))); (case side2 => exact HC0_0.out); rintro e w' ⟨rfl, ⟨nd, rfl⟩⟩; (try first | exact ⟨rfl, _, World.drewN_drewN _ _ _⟩ | exact ⟨rfl, _, Eq.trans (World.drewN_drewN _ _ _) (congrArg (World.drewN _) (Nat.add_assoc _ _ _))⟩))); try go_wp2_with (first | (go_at_call 31; (with_reducible refine (slices_Index_string_string.calls k _ _ l0_1 a1_0 t105 _ ?side1 ?side2 A3.out).mono ?_); (case side1 => repeat (first | exact (Kd.C_below HR0_1.out HB.out) | (with_reducible refine Kd.C_alloc ?_ _) | (with_reducible refine Kd.C_drewN ?_ _) | (with_reducible refine Kd.C_drew ?_))); (case side2 => exact HC0_1.out); rintro e w' ⟨rfl, ⟨nd, rfl⟩⟩; (try first | exact ⟨rfl, _, World.drewN_drewN _ _ _⟩ | exact ⟨rfl, _, Eq.trans (World.drewN_drewN _ _ _) (congrArg (World.drewN _) (Nat.add_assoc _ _ _))⟩)) | (go_at_call 30; (with_reducible refine (graph_at.calls _ _ l0_3 t105 t106 _ ?side1 ?side2 A4.out).mono ?_); (case side1 => repeat (first | exact (Kd.C_below HR0_3.out (by repeat (first | (with_reducible first | exact HB.out | apply below_alloc | apply pw_below_drewN | apply below_drew1 | refine below_set ?_ GE103.out | refine below_set ?_ GE104.out) | exact HB.out))) | (with_reducible refine Kd.C_alloc ?_ _) | (with_reducible refine Kd.C_drewN ?_ _) | (with_reducible refine Kd.C_drew ?_))); (case side2 => exact HC0_3.out); rintro e w' ⟨rfl, ⟨nd, rfl⟩⟩; (try first | exact ⟨rfl, _, World.drewN_drewN _ _ _⟩ | exact ⟨rfl, _, Eq.trans (World.drewN_drewN _ _ _) (congrArg (World.drewN _) (Nat.add_assoc _ _ _))⟩)) | (go_at_call 31; (with_reducible refine (slices_Index_string_string.calls k _ _ l0_2 a1_1 t107 _ ?side1 ?side2 A5.out).mono ?_); (case side1 => repeat (first | exact (Kd.C_below HR0_2.out (by repeat (first | (with_reducible first | exact HB.out | apply below_alloc | apply pw_below_drewN | apply below_drew1 | refine below_set ?_ GE103.out | refine below_set ?_ GE104.out) | exact HB.out))) | (with_reducible refine Kd.C_alloc ?_ _) | (with_reducible refine Kd.C_drewN ?_ _) | (with_reducible refine Kd.C_drew ?_))); (case side2 => exact HC0_2.out); rintro e w' ⟨rfl, ⟨nd, rfl⟩⟩; (try first | exact ⟨rfl, _, World.drewN_drewN _ _ _⟩ | exact ⟨rfl, _, Eq.trans (World.drewN_drewN _ _ _) (congrArg (World.drewN _) (Nat.add_assoc _ _ _))⟩)) | (go_at_call 30; (with_reducible refine (graph_at.calls _ _ l0_4 t107 t108 _ ?side1 ?side2 A6.out).mono ?_); (case side1 => repeat (first | exact (Kd.C_below HR0_4.out (by repeat (first | (with_reducible first | exact HB.out | apply below_alloc | apply pw_below_drewN | apply below_drew1 | refine below_set ?_ GE103.out | refine below_set ?_ GE104.out) | exact HB.out))) | (with_reducible refine Kd.C_alloc ?_ _) | (with_reducible refine Kd.C_drewN ?_ _) | (with_reducible refine Kd.C_drew ?_))); (case side2 => exact HC0_4.out); rintro e w' ⟨rfl, ⟨nd, rfl⟩⟩; (try first | exact ⟨rfl, _, World.drewN_drewN _ _ _⟩ | exact ⟨rfl, _, Eq.trans (World.drewN_drewN _ _ _) (congrArg (World.drewN _) (Nat.add_assoc _ _ _))⟩)) | (go_at_call 31; (with_reducible refine (slices_Index_string_string.calls k _ _ l0_0 a1_2 t109 _ ?side1 ?side2 A7.out).mono ?_); (case side1 => repeat (first | exact (Kd.C_below HR0_0.out (by repeat (first | (with_reducible first | exact HB.out | apply below_alloc | apply pw_below_drewN | apply below_drew1 | refine below_set ?_ GE103.out | refine below_set ?_ GE104.out) | exact HB.out))) | (with_reducible refine Kd.C_alloc ?_ _) | (with_reducible refine Kd.C_drewN ?_ _) | (with_reducible refine Kd.C_drew ?_))); (case side2 => exact HC0_0.out); rintro e w' ⟨rfl, ⟨nd, rfl⟩⟩; (try first | exact ⟨rfl, _, World.drewN_drewN _ _ _⟩ | exact ⟨rfl, _, Eq.trans (World.drewN_drewN _ _ _) (congrArg (World.drewN _) (Nat.add_assoc _ _ _))⟩))))
    go_ret
    exact ⟨by first | rfl | (simp [errW_none, errW_some] <;> rfl) | (simp [*, errW_none, errW_some] <;> rfl), by repeat (first | (with_reducible first | exact HB.out | apply below_alloc | apply pw_below_drewN | apply below_drew1 | refine below_set ?_ GE103.out | refine below_set ?_ GE104.out) | exact HB.out)⟩
  · rw [if_neg c8] at H
    have c8b0 : decide (t106 < 0) = false := decide_eq_false c8
    clear c8
    by_cases c14 : t106 ≥ (l0_5.length : Int)
    · rw [if_pos c14] at H
      have c14b0 : decide ((l0_5.length : Int) ≤ t106) = true := decide_eq_true c14
      clear c14
      obtain rfl := Option.some.inj H
      go_enter Try.func10, Try.ntmps10
      go_wp2_with (first | ((with_reducible refine gate_dst (N := 2) rfl ?_); (try (refine gate_guard (by rfl) ?_; dsimp only)); refine box_event ?hg (N := 2) ?hd (cs := #[.slice A0_0 l0_0.length c0_0, .slice A0_1 l0_1.length c0_1, .slice A0_2 l0_2.length c0_2, .slice A0_3 l0_3.length c0_3, .slice A0_4 l0_4.length c0_4, .slice A0_5 l0_5.length c0_5]) (t := 26) ?hr ?_; (case hd => rfl); (case hg => rfl); (case hr => first | (go_simp; done) | (go_simp; rfl)); intro gb103 hg w15 hbox hb; have n0_ := Aside0.mk (below_step (by repeat (first | (with_reducible first | exact HB.out | apply below_alloc | apply pw_below_drewN | apply below_drew1) | exact HB.out)) hb); have n1_ := Aside0.mk (hbox); have n2_ := Aside0.mk ((by rw [hg]; exact (below_size (by repeat (first | (with_reducible first | exact HB.out | apply below_alloc | apply pw_below_drewN | apply below_drew1) | exact HB.out))) : w.heap.size ≤ gb103)); have n3_ := Aside0.mk ((by rw [hg]; exact (below_size (by repeat (first | (with_reducible first | exact HB.out | apply below_alloc | apply pw_below_drewN | apply below_drew1) | exact HB.out))) : w.heap.size ≤ gb103)); clear HB; have HB := n0_; have BK103 := n1_; have GW103 := n2_; have GE103 := n3_; clear n0_ n1_ n2_ n3_; clear hb hbox hg) | ((with_reducible refine gate_dst (N := 3) rfl ?_); (try (refine gate_guard (by rfl) ?_; dsimp only)); refine box_event ?hg (N := 3) ?hd (cs := #[.string a1_0, .string a1_1, .string a1_2]) (t := 28) ?hr ?_; (case hd => rfl); (case hg => rfl); (case hr => first | (go_simp; done) | (go_simp; rfl)); intro gb104 hg w16 hbox hb; have n0_ := Aside0.mk (blk_below (g := gb103) (o := .cells #[.slice A0_0 l0_0.length c0_0, .slice A0_1 l0_1.length c0_1, .slice A0_2 l0_2.length c0_2, .slice A0_3 l0_3.length c0_3, .slice A0_4 l0_4.length c0_4, .slice A0_5 l0_5.length c0_5] 26 (0, 0)) (by (with_reducible repeat (first | refine blk_drewN ?_ _ | refine blk_drew ?_ | refine blk_alloc ?_ _)); exact BK103.out) hb); have n1_ := Aside0.mk (below_step (by repeat (first | (with_reducible first | exact HB.out | apply below_alloc | apply pw_below_drewN | apply below_drew1 | refine below_set ?_ GE103.out) | exact HB.out)) hb); have n2_ := Aside0.mk (hbox); have n3_ := Aside0.mk ((by rw [hg]; exact (below_size (by repeat (first | (with_reducible first | exact HB.out | apply below_alloc | apply pw_below_drewN | apply below_drew1 | refine below_set ?_ GE103.out) | exact HB.out))) : w.heap.size ≤ gb104)); have n4_ := Aside0.mk ((by rw [hg]; exact (below_size (by repeat (first | (with_reducible first | exact HB.out | apply below_alloc | apply pw_below_drewN | apply below_drew1 | refine below_set ?_ GE103.out) | exact HB.out))) : w.heap.size ≤ gb104)); have n5_ := Aside0.mk ((by rw [hg]; exact Nat.ne_of_lt (blk_lt (g := gb103) (o := .cells #[.slice A0_0 l0_0.length c0_0, .slice A0_1 l0_1.length c0_1, .slice A0_2 l0_2.length c0_2, .slice A0_3 l0_3.length c0_3, .slice A0_4 l0_4.length c0_4, .slice A0_5 l0_5.length c0_5] 26 (0, 0)) (by (with_reducible repeat (first | refine blk_drewN ?_ _ | refine blk_drew ?_ | refine blk_alloc ?_ _)); exact BK103.out)) : gb103 ≠ gb104)); have n6_ := Aside0.mk ((by rw [hg]; exact Nat.ne_of_gt (blk_lt (g := gb103) (o := .cells #[.slice A0_0 l0_0.length c0_0, .slice A0_1 l0_1.length c0_1, .slice A0_2 l0_2.length c0_2, .slice A0_3 l0_3.length c0_3, .slice A0_4 l0_4.length c0_4, .slice A0_5 l0_5.length c0_5] 26 (0, 0)) (by (with_reducible repeat (first | refine blk_drewN ?_ _ | refine blk_drew ?_ | refine blk_alloc ?_ _)); exact BK103.out)) : gb104 ≠ gb103)); clear BK103; clear HB; have BK103 := n0_; have HB := n1_; have BK104 := n2_; have GW104 := n3_; have GE104 := n4_; have NB103_104 := n5_; have NB104_103 := n6_; clear n0_ n1_ n2_ n3_ n4_ n5_ n6_; clear hb hbox hg; have hnb17 := NB103_104.out; have hnc17 := NB104_103.out; have hcz18_0 : w16.cell? ⟨gb103, 0, none⟩ = some (.slice A0_0 l0_0.length c0_0) := (blk_cell BK103.out 0).trans rfl; have hcz18_1 : w16.cell? ⟨gb103, 1, none⟩ = some (.slice A0_1 l0_1.length c0_1) := (blk_cell BK103.out 1).trans rfl; have hcz18_2 : w16.cell? ⟨gb103, 2, none⟩ = some (.slice A0_2 l0_2.length c0_2) := (blk_cell BK103.out 2).trans rfl; have hcz18_3 : w16.cell? ⟨gb103, 3, none⟩ = some (.slice A0_3 l0_3.length c0_3) := (blk_cell BK103.out 3).trans rfl; have hcz18_4 : w16.cell? ⟨gb103, 4, none⟩ = some (.slice A0_4 l0_4.length c0_4) := (blk_cell BK103.out 4).trans rfl; have hcz18_5 : w16.cell? ⟨gb103, 5, none⟩ = some (.slice A0_5 l0_5.length c0_5) := (blk_cell BK103.out 5).trans rfl; have hfz18_0 := blk_frozen BK103.out 0; have hfz18_1 := blk_frozen BK103.out 1; have hfz18_2 := blk_frozen BK103.out 2; have hfz18_3 := blk_frozen BK103.out 3; have hfz18_4 := blk_frozen BK103.out 4; have hfz18_5 := blk_frozen BK103.out 5; have hcz19_0 : w16.cell? ⟨gb104, 0, none⟩ = some (.string a1_0) := (blk_cell BK104.out 0).trans rfl; have hcz19_1 : w16.cell? ⟨gb104, 1, none⟩ = some (.string a1_1) := (blk_cell BK104.out 1).trans rfl; have hcz19_2 : w16.cell? ⟨gb104, 2, none⟩ = some (.string a1_2) := (blk_cell BK104.out 2).trans rfl; have hfz19_0 := blk_frozen BK104.out 0; have hfz19_1 := blk_frozen BK104.out 1; have hfz19_2 := blk_frozen BK104.out 2))
      repeat (go_quiet (first | (go_at_call 31; (with_reducible refine (slices_Index_string_string.calls k _ _ l0_1 a1_0 t105 _ ?side1 ?side2 A3.out).mono ?_); (case side1 => repeat (first | exact (Kd.C_below HR0_1.out HB.out) | (with_reducible refine Kd.C_alloc ?_ _) | (with_reducible refine Kd.C_drewN ?_ _) | (with_reducible refine Kd.C_drew ?_))); (case side2 => exact HC0_1.out); rintro e w' ⟨rfl, ⟨nd, rfl⟩⟩; (try first | exact ⟨rfl, _, World.drewN_drewN _ _ _⟩ | exact ⟨rfl, _, Eq.trans (World.drewN_drewN _ _ _) (congrArg (World.drewN _) (Nat.add_assoc _ _ _))⟩)) | (go_at_call 30; (with_reducible refine (graph_at.calls _ _ l0_3 t105 t106 _ ?side1 ?side2 A4.out).mono ?_); (case side1 => repeat (first | exact (Kd.C_below HR0_3.out (by repeat (first | (with_reducible first | exact HB.out | apply below_alloc | apply pw_below_drewN | apply below_drew1 | refine below_set ?_ GE103.out | refine below_set ?_ GE104.out) | exact HB.out))) | (with_reducible refine Kd.C_alloc ?_ _) | (with_reducible refine Kd.C_drewN ?_ _) | (with_reducible refine Kd.C_drew ?_))); (case side2 => exact HC0_3.out); rintro e w' ⟨rfl, ⟨nd, rfl⟩⟩; (try first | exact ⟨rfl, _, World.drewN_drewN _ _ _⟩ | exact ⟨rfl, _, Eq.trans (World.drewN_drewN _ _ _) (congrArg (World.drewN _) (Nat.add_assoc _ _ _))⟩)) | (go_at_call 31; (with_reducible refine (slices_Index_string_string.calls k _ _ l0_2 a1_1 t107 _ ?side1 ?side2 A5.out).mono ?_); (case side1 => repeat (first | exact (Kd.C_below HR0_2.out (by repeat (first | (with_reducible first | exact HB.out | apply below_alloc | apply pw_below_drewN | apply below_drew1 | refine below_set ?_ GE103.out | refine below_set ?_ GE104.out) | exact HB.out))) | (with_reducible refine Kd.C_alloc ?_ _) | (with_reducible refine Kd.C_drewN ?_ _) | (with_reducible refine Kd.C_drew ?_))); (case side2 => exact HC0_2.out); rintro e w' ⟨rfl, ⟨nd, rfl⟩⟩; (try first | exact ⟨rfl, _, World.drewN_drewN _ _ _⟩ | exact ⟨rfl, _, Eq.trans (World.drewN_drewN _ _ _) (congrArg (World.drewN _) (Nat.add_assoc _ _ _))⟩)) | (go_at_call 30; (with_reducible refine (graph_at.calls _ _ l0_4 t107 t108 _ ?side1 ?side2 A6.out).mono ?_); (case side1 => repeat (first | exact (Kd.C_below HR0_4.out (by repeat (first | (with_reducible first | exact HB.out | apply below_alloc | apply pw_below_drewN | apply below_drew1 | refine below_set ?_ GE103.out | refine below_set ?_ GE104.out) | exact HB.out))) | (with_reducible refine Kd.C_alloc ?_ _) | (with_reducible refine Kd.C_drewN ?_ _) | (with_reducible refine Kd.C_drew ?_))); (case side2 => exact HC0_4.out); rintro e w' ⟨rfl, ⟨nd, rfl⟩⟩; (try first | exact ⟨rfl, _, World.drewN_drewN _ _ _⟩ | exact ⟨rfl, _, Eq.trans (World.drewN_drewN _ _ _) (congrArg (World.drewN _) (Nat.add_assoc _ _ _))⟩)) | (go_at_call 31; (with_reducible refine (slices_Index_string_string.calls k _ _ l0_0 a1_2 t109 _ ?side1 ?side2 A7.out).mono ?_); (case side1 => repeat (first | exact (Kd.C_below HR0_0.out (by repeat (first | (with_reducible first | exact HB.out | apply below_alloc | apply pw_below_drewN | apply below_drew1 | refine below_set ?_ GE103.out | refine below_set ?_ GE104.out) | exact HB.out))) | (with_reducible refine Kd.C_alloc ?_ _) | (with_reducible refine Kd.C_drewN ?_ _) | (with_reducible refine Kd.C_drew ?_))); (case side2 => exact HC0_0.out); rintro e w' ⟨rfl, ⟨nd, rfl⟩⟩; (try first | exact ⟨rfl, _, World.drewN_drewN _ _ _⟩ | exact ⟨rfl, _, Eq.trans (World.drewN_drewN _ _ _) (congrArg (World.drewN _) (Nat.add_assoc _ _ _))⟩))); try go_wp2_with (first | (go_at_call 31; (with_reducible refine (slices_Index_string_string.calls k _ _ l0_1 a1_0 t105 _ ?side1 ?side2 A3.out).mono ?_); (case side1 => repeat (first | exact (Kd.C_below HR0_1.out HB.out) | (with_reducible refine Kd.C_alloc ?_ _) | (with_reducible refine Kd.C_drewN ?_ _) | (with_reducible refine Kd.C_drew ?_))); (case side2 => exact HC0_1.out); rintro e w' ⟨rfl, ⟨nd, rfl⟩⟩; (try first | exact ⟨rfl, _, World.drewN_drewN _ _ _⟩ | exact ⟨rfl, _, Eq.trans (World.drewN_drewN _ _ _) (congrArg (World.drewN _) (Nat.add_assoc _ _ _))⟩)) | (go_at_call 30; (with_reducible refine (graph_at.calls _ _ l0_3 t105 t106 _ ?side1 ?side2 A4.out).mono ?_); (case side1 => repeat (first | exact (Kd.C_below HR0_3.out (by repeat (first | (with_reducible first | exact HB.out | apply below_alloc | apply pw_below_drewN | apply below_drew1 | refine below_set ?_ GE103.out | refine below_set ?_ GE104.out) | exact HB.out))) | (with_reducible refine Kd.C_alloc ?_ _) | (with_reducible refine Kd.C_drewN ?_ _) | (with_reducible refine Kd.C_drew ?_))); (case side2 => exact HC0_3.out); rintro e w' ⟨rfl, ⟨nd, rfl⟩⟩; (try first | exact ⟨rfl, _, World.drewN_drewN _ _ _⟩ | exact ⟨rfl, _, Eq.trans (World.drewN_drewN _ _ _) (congrArg (World.drewN _) (Nat.add_assoc _ _ _))⟩)) | (go_at_call 31; (with_reducible refine (slices_Index_string_string.calls k _ _ l0_2 a1_1 t107 _ ?side1 ?side2 A5.out).mono ?_); (case side1 => repeat (first | exact (Kd.C_below HR0_2.out (by repeat (first | (with_reducible first | exact HB.out | apply below_alloc | apply pw_below_drewN | apply below_drew1 | refine below_set ?_ GE103.out | refine below_set ?_ GE104.out) | exact HB.out))) | (with_reducible refine Kd.C_alloc ?_ _) | (with_reducible refine Kd.C_drewN ?_ _) | (with_reducible refine Kd.C_drew ?_))); (case side2 => exact HC0_2.out); rintro e w' ⟨rfl, ⟨nd, rfl⟩⟩; (try first | exact ⟨rfl, _, World.drewN_drewN _ _ _⟩ | exact ⟨rfl, _, Eq.trans (World.drewN_drewN _ _ _) (congrArg (World.drewN _) (Nat.add_assoc _ _ _))⟩)) | (go_at_call 30; (with_reducible refine (graph_at.calls _ _ l0_4 t107 t108 _ ?side1 ?side2 A6.out).mono ?_); (case side1 => repeat (first | exact (Kd.C_below HR0_4.out (by repeat (first | (with_reducible first | exact HB.out | apply below_alloc | apply pw_below_drewN | apply below_drew1 | refine below_set ?_ GE103.out | refine below_set ?_ GE104.out) | exact HB.out))) | (with_reducible refine Kd.C_alloc ?_ _) | (with_reducible refine Kd.C_drewN ?_ _) | (with_reducible refine Kd.C_drew ?_))); (case side2 => exact HC0_4.out); rintro e w' ⟨rfl, ⟨nd, rfl⟩⟩; (try first | exact ⟨rfl, _, World.drewN_drewN _ _ _⟩ | exact ⟨rfl, _, Eq.trans (World.drewN_drewN _ _ _) (congrArg (World.drewN _) (Nat.add_assoc _ _ _))⟩)) | (go_at_call 31; (with_reducible refine (slices_Index_string_string.calls k _ _ l0_0 a1_2 t109 _ ?side1 ?side2 A7.out).mono ?_); (case side1 => repeat (first | exact (Kd.C_below HR0_0.out (by repeat (first | (with_reducible first | exact HB.out | apply below_alloc | apply pw_below_drewN | apply below_drew1 | refine below_set ?_ GE103.out | refine below_set ?_ GE104.out) | exact HB.out))) | (with_reducible refine Kd.C_alloc ?_ _) | (with_reducible refine Kd.C_drewN ?_ _) | (with_reducible refine Kd.C_drew ?_))); (case side2 => exact HC0_0.out); rintro e w' ⟨rfl, ⟨nd, rfl⟩⟩; (try first | exact ⟨rfl, _, World.drewN_drewN _ _ _⟩ | exact ⟨rfl, _, Eq.trans (World.drewN_drewN _ _ _) (congrArg (World.drewN _) (Nat.add_assoc _ _ _))⟩))))
      go_ret
      exact ⟨by first | rfl | (simp [errW_none, errW_some] <;> rfl) | (simp [*, errW_none, errW_some] <;> rfl), by repeat (first | (with_reducible first | exact HB.out | apply below_alloc | apply pw_below_drewN | apply below_drew1 | refine below_set ?_ GE103.out | refine below_set ?_ GE104.out) | exact HB.out)⟩
    · rw [if_neg c14] at H
      have c14b0 : decide ((l0_5.length : Int) ≤ t106) = false := decide_eq_false c14
      clear c14
      by_cases c20 : t108 < 0
      · rw [if_pos c20] at H
        have c20b0 : decide (t108 < 0) = true := decide_eq_true c20
        clear c20
        obtain rfl := Option.some.inj H
        go_enter Try.func10, Try.ntmps10
        go_wp2_with (first | ((with_reducible refine gate_dst (N := 2) rfl ?_); (try (refine gate_guard (by rfl) ?_; dsimp only)); refine box_event ?hg (N := 2) ?hd (cs := #[.slice A0_0 l0_0.length c0_0, .slice A0_1 l0_1.length c0_1, .slice A0_2 l0_2.length c0_2, .slice A0_3 l0_3.length c0_3, .slice A0_4 l0_4.length c0_4, .slice A0_5 l0_5.length c0_5]) (t := 26) ?hr ?_; (case hd => rfl); (case hg => rfl); (case hr => first | (go_simp; done) | (go_simp; rfl)); intro gb103 hg w21 hbox hb; have n0_ := Aside0.mk (below_step (by repeat (first | (with_reducible first | exact HB.out | apply below_alloc | apply pw_below_drewN | apply below_drew1) | exact HB.out)) hb); have n1_ := Aside0.mk (hbox); have n2_ := Aside0.mk ((by rw [hg]; exact (below_size (by repeat (first | (with_reducible first | exact HB.out | apply below_alloc | apply pw_below_drewN | apply below_drew1) | exact HB.out))) : w.heap.size ≤ gb103)); have n3_ := Aside0.mk ((by rw [hg]; exact (below_size (by repeat (first | (with_reducible first | exact HB.out | apply below_alloc | apply pw_below_drewN | apply below_drew1) | exact HB.out))) : w.heap.size ≤ gb103)); clear HB; have HB := n0_; have BK103 := n1_; have GW103 := n2_; have GE103 := n3_; clear n0_ n1_ n2_ n3_; clear hb hbox hg) | ((with_reducible refine gate_dst (N := 3) rfl ?_); (try (refine gate_guard (by rfl) ?_; dsimp only)); refine box_event ?hg (N := 3) ?hd (cs := #[.string a1_0, .string a1_1, .string a1_2]) (t := 28) ?hr ?_; (case hd => rfl); (case hg => rfl); (case hr => first | (go_simp; done) | (go_simp; rfl)); intro gb104 hg w22 hbox hb; have n0_ := Aside0.mk (blk_below (g := gb103) (o := .cells #[.slice A0_0 l0_0.length c0_0, .slice A0_1 l0_1.length c0_1, .slice A0_2 l0_2.length c0_2, .slice A0_3 l0_3.length c0_3, .slice A0_4 l0_4.length c0_4, .slice A0_5 l0_5.length c0_5] 26 (0, 0)) (by (with_reducible repeat (first | refine blk_drewN ?_ _ | refine blk_drew ?_ | refine blk_alloc ?_ _)); exact BK103.out) hb); have n1_ := Aside0.mk (below_step (by repeat (first | (with_reducible first | exact HB.out | apply below_alloc | apply pw_below_drewN | apply below_drew1 | refine below_set ?_ GE103.out) | exact HB.out)) hb); have n2_ := Aside0.mk (hbox); have n3_ := Aside0.mk ((by rw [hg]; exact (below_size (by repeat (first | (with_reducible first | exact HB.out | apply below_alloc | apply pw_below_drewN | apply below_drew1 | refine below_set ?_ GE103.out) | exact HB.out))) : w.heap.size ≤ gb104)); have n4_ := Aside0.mk ((by rw [hg]; exact (below_size (by repeat (first | (with_reducible first | exact HB.out | apply below_alloc | apply pw_below_drewN | apply below_drew1 | refine below_set ?_ GE103.out) | exact HB.out))) : w.heap.size ≤ gb104)); have n5_ := Aside0.mk ((by rw [hg]; exact Nat.ne_of_lt (blk_lt (g := gb103) (o := .cells #[.slice A0_0 l0_0.length c0_0, .slice A0_1 l0_1.length c0_1, .slice A0_2 l0_2.length c0_2, .slice A0_3 l0_3.length c0_3, .slice A0_4 l0_4.length c0_4, .slice A0_5 l0_5.length c0_5] 26 (0, 0)) (by (with_reducible repeat (first | refine blk_drewN ?_ _ | refine blk_drew ?_ | refine blk_alloc ?_ _)); exact BK103.out)) : gb103 ≠ gb104)); have n6_ := Aside0.mk ((by rw [hg]; exact Nat.ne_of_gt (blk_lt (g := gb103) (o := .cells #[.slice A0_0 l0_0.length c0_0, .slice A0_1 l0_1.length c0_1, .slice A0_2 l0_2.length c0_2, .slice A0_3 l0_3.length c0_3, .slice A0_4 l0_4.length c0_4, .slice A0_5 l0_5.length c0_5] 26 (0, 0)) (by (with_reducible repeat (first | refine blk_drewN ?_ _ | refine blk_drew ?_ | refine blk_alloc ?_ _)); exact BK103.out)) : gb104 ≠ gb103)); clear BK103; clear HB; have BK103 := n0_; have HB := n1_; have BK104 := n2_; have GW104 := n3_; have GE104 := n4_; have NB103_104 := n5_; have NB104_103 := n6_; clear n0_ n1_ n2_ n3_ n4_ n5_ n6_; clear hb hbox hg; have hnb23 := NB103_104.out; have hnc23 := NB104_103.out; have hcz24_0 : w22.cell? ⟨gb103, 0, none⟩ = some (.slice A0_0 l0_0.length c0_0) := (blk_cell BK103.out 0).trans rfl; have hcz24_1 : w22.cell? ⟨gb103, 1, none⟩ = some (.slice A0_1 l0_1.length c0_1) := (blk_cell BK103.out 1).trans rfl; have hcz24_2 : w22.cell? ⟨gb103, 2, none⟩ = some (.slice A0_2 l0_2.length c0_2) := (blk_cell BK103.out 2).trans rfl; have hcz24_3 : w22.cell? ⟨gb103, 3, none⟩ = some (.slice A0_3 l0_3.length c0_3) := (blk_cell BK103.out 3).trans rfl; have hcz24_4 : w22.cell? ⟨gb103, 4, none⟩ = some (.slice A0_4 l0_4.length c0_4) := (blk_cell BK103.out 4).trans rfl; have hcz24_5 : w22.cell? ⟨gb103, 5, none⟩ = some (.slice A0_5 l0_5.length c0_5) := (blk_cell BK103.out 5).trans rfl; have hfz24_0 := blk_frozen BK103.out 0; have hfz24_1 := blk_frozen BK103.out 1; have hfz24_2 := blk_frozen BK103.out 2; have hfz24_3 := blk_frozen BK103.out 3; have hfz24_4 := blk_frozen BK103.out 4; have hfz24_5 := blk_frozen BK103.out 5; have hcz25_0 : w22.cell? ⟨gb104, 0, none⟩ = some (.string a1_0) := (blk_cell BK104.out 0).trans rfl; have hcz25_1 : w22.cell? ⟨gb104, 1, none⟩ = some (.string a1_1) := (blk_cell BK104.out 1).trans rfl; have hcz25_2 : w22.cell? ⟨gb104, 2, none⟩ = some (.string a1_2) := (blk_cell BK104.out 2).trans rfl; have hfz25_0 := blk_frozen BK104.out 0; have hfz25_1 := blk_frozen BK104.out 1; have hfz25_2 := blk_frozen BK104.out 2))
        repeat (go_quiet (first | (go_at_call 31; (with_reducible refine (slices_Index_string_string.calls k _ _ l0_1 a1_0 t105 _ ?side1 ?side2 A3.out).mono ?_); (case side1 => repeat (first | exact (Kd.C_below HR0_1.out HB.out) | (with_reducible refine Kd.C_alloc ?_ _) | (with_reducible refine Kd.C_drewN ?_ _) | (with_reducible refine Kd.C_drew ?_))); (case side2 => exact HC0_1.out); rintro e w' ⟨rfl, ⟨nd, rfl⟩⟩; (try first | exact ⟨rfl, _, World.drewN_drewN _ _ _⟩ | exact ⟨rfl, _, Eq.trans (World.drewN_drewN _ _ _) (congrArg (World.drewN _) (Nat.add_assoc _ _ _))⟩)) | (go_at_call 30; (with_reducible refine (graph_at.calls _ _ l0_3 t105 t106 _ ?side1 ?side2 A4.out).mono ?_); (case side1 => repeat (first | exact (Kd.C_below HR0_3.out (by repeat (first | (with_reducible first | exact HB.out | apply below_alloc | apply pw_below_drewN | apply below_drew1 | refine below_set ?_ GE103.out | refine below_set ?_ GE104.out) | exact HB.out))) | (with_reducible refine Kd.C_alloc ?_ _) | (with_reducible refine Kd.C_drewN ?_ _) | (with_reducible refine Kd.C_drew ?_))); (case side2 => exact HC0_3.out); rintro e w' ⟨rfl, ⟨nd, rfl⟩⟩; (try first | exact ⟨rfl, _, World.drewN_drewN _ _ _⟩ | exact ⟨rfl, _, Eq.trans (World.drewN_drewN _ _ _) (congrArg (World.drewN _) (Nat.add_assoc _ _ _))⟩)) | (go_at_call 31; (with_reducible refine (slices_Index_string_string.calls k _ _ l0_2 a1_1 t107 _ ?side1 ?side2 A5.out).mono ?_); (case side1 => repeat (first | exact (Kd.C_below HR0_2.out (by repeat (first | (with_reducible first | exact HB.out | apply below_alloc | apply pw_below_drewN | apply below_drew1 | refine below_set ?_ GE103.out | refine below_set ?_ GE104.out) | exact HB.out))) | (with_reducible refine Kd.C_alloc ?_ _) | (with_reducible refine Kd.C_drewN ?_ _) | (with_reducible refine Kd.C_drew ?_))); (case side2 => exact HC0_2.out); rintro e w' ⟨rfl, ⟨nd, rfl⟩⟩; (try first | exact ⟨rfl, _, World.drewN_drewN _ _ _⟩ | exact ⟨rfl, _, Eq.trans (World.drewN_drewN _ _ _) (congrArg (World.drewN _) (Nat.add_assoc _ _ _))⟩)) | (go_at_call 30; (with_reducible refine (graph_at.calls _ _ l0_4 t107 t108 _ ?side1 ?side2 A6.out).mono ?_); (case side1 => repeat (first | exact (Kd.C_below HR0_4.out (by repeat (first | (with_reducible first | exact HB.out | apply below_alloc | apply pw_below_drewN | apply below_drew1 | refine below_set ?_ GE103.out | refine below_set ?_ GE104.out) | exact HB.out))) | (with_reducible refine Kd.C_alloc ?_ _) | (with_reducible refine Kd.C_drewN ?_ _) | (with_reducible refine Kd.C_drew ?_))); (case side2 => exact HC0_4.out); rintro e w' ⟨rfl, ⟨nd, rfl⟩⟩; (try first | exact ⟨rfl, _, World.drewN_drewN _ _ _⟩ | exact ⟨rfl, _, Eq.trans (World.drewN_drewN _ _ _) (congrArg (World.drewN _) (Nat.add_assoc _ _ _))⟩)) | (go_at_call 31; (with_reducible refine (slices_Index_string_string.calls k _ _ l0_0 a1_2 t109 _ ?side1 ?side2 A7.out).mono ?_); (case side1 => repeat (first | exact (Kd.C_below HR0_0.out (by repeat (first | (with_reducible first | exact HB.out | apply below_alloc | apply pw_below_drewN | apply below_drew1 | refine below_set ?_ GE103.out | refine below_set ?_ GE104.out) | exact HB.out))) | (with_reducible refine Kd.C_alloc ?_ _) | (with_reducible refine Kd.C_drewN ?_ _) | (with_reducible refine Kd.C_drew ?_))); (case side2 => exact HC0_0.out); rintro e w' ⟨rfl, ⟨nd, rfl⟩⟩; (try first | exact ⟨rfl, _, World.drewN_drewN _ _ _⟩ | exact ⟨rfl, _, Eq.trans (World.drewN_drewN _ _ _) (congrArg (World.drewN _) (Nat.add_assoc _ _ _))⟩))); try go_wp2_with (first | (go_at_call 31; (with_reducible refine (slices_Index_string_string.calls k _ _ l0_1 a1_0 t105 _ ?side1 ?side2 A3.out).mono ?_); (case side1 => repeat (first | exact (Kd.C_below HR0_1.out HB.out) | (with_reducible refine Kd.C_alloc ?_ _) | (with_reducible refine Kd.C_drewN ?_ _) | (with_reducible refine Kd.C_drew ?_))); (case side2 => exact HC0_1.out); rintro e w' ⟨rfl, ⟨nd, rfl⟩⟩; (try first | exact ⟨rfl, _, World.drewN_drewN _ _ _⟩ | exact ⟨rfl, _, Eq.trans (World.drewN_drewN _ _ _) (congrArg (World.drewN _) (Nat.add_assoc _ _ _))⟩)) | (go_at_call 30; (with_reducible refine (graph_at.calls _ _ l0_3 t105 t106 _ ?side1 ?side2 A4.out).mono ?_); (case side1 => repeat (first | exact (Kd.C_below HR0_3.out (by repeat (first | (with_reducible first | exact HB.out | apply below_alloc | apply pw_below_drewN | apply below_drew1 | refine below_set ?_ GE103.out | refine below_set ?_ GE104.out) | exact HB.out))) | (with_reducible refine Kd.C_alloc ?_ _) | (with_reducible refine Kd.C_drewN ?_ _) | (with_reducible refine Kd.C_drew ?_))); (case side2 => exact HC0_3.out); rintro e w' ⟨rfl, ⟨nd, rfl⟩⟩; (try first | exact ⟨rfl, _, World.drewN_drewN _ _ _⟩ | exact ⟨rfl, _, Eq.trans (World.drewN_drewN _ _ _) (congrArg (World.drewN _) (Nat.add_assoc _ _ _))⟩)) | (go_at_call 31; (with_reducible refine (slices_Index_string_string.calls k _ _ l0_2 a1_1 t107 _ ?side1 ?side2 A5.out).mono ?_); (case side1 => repeat (first | exact (Kd.C_below HR0_2.out (by repeat (first | (with_reducible first | exact HB.out | apply below_alloc | apply pw_below_drewN | apply below_drew1 | refine below_set ?_ GE103.out | refine below_set ?_ GE104.out) | exact HB.out))) | (with_reducible refine Kd.C_alloc ?_ _) | (with_reducible refine Kd.C_drewN ?_ _) | (with_reducible refine Kd.C_drew ?_))); (case side2 => exact HC0_2.out); rintro e w' ⟨rfl, ⟨nd, rfl⟩⟩; (try first | exact ⟨rfl, _, World.drewN_drewN _ _ _⟩ | exact ⟨rfl, _, Eq.trans (World.drewN_drewN _ _ _) (congrArg (World.drewN _) (Nat.add_assoc _ _ _))⟩)) | (go_at_call 30; (with_reducible refine (graph_at.calls _ _ l0_4 t107 t108 _ ?side1 ?side2 A6.out).mono ?_); (case side1 => repeat (first | exact (Kd.C_below HR0_4.out (by repeat (first | (with_reducible first | exact HB.out | apply below_alloc | apply pw_below_drewN | apply below_drew1 | refine below_set ?_ GE103.out | refine below_set ?_ GE104.out) | exact HB.out))) | (with_reducible refine Kd.C_alloc ?_ _) | (with_reducible refine Kd.C_drewN ?_ _) | (with_reducible refine Kd.C_drew ?_))); (case side2 => exact HC0_4.out); rintro e w' ⟨rfl, ⟨nd, rfl⟩⟩; (try first | exact ⟨rfl, _, World.drewN_drewN _ _ _⟩ | exact ⟨rfl, _, Eq.trans (World.drewN_drewN _ _ _) (congrArg (World.drewN _) (Nat.add_assoc _ _ _))⟩)) | (go_at_call 31; (with_reducible refine (slices_Index_string_string.calls k _ _ l0_0 a1_2 t109 _ ?side1 ?side2 A7.out).mono ?_); (case side1 => repeat (first | exact (Kd.C_below HR0_0.out (by repeat (first | (with_reducible first | exact HB.out | apply below_alloc | apply pw_below_drewN | apply below_drew1 | refine below_set ?_ GE103.out | refine below_set ?_ GE104.out) | exact HB.out))) | (with_reducible refine Kd.C_alloc ?_ _) | (with_reducible refine Kd.C_drewN ?_ _) | (with_reducible refine Kd.C_drew ?_))); (case side2 => exact HC0_0.out); rintro e w' ⟨rfl, ⟨nd, rfl⟩⟩; (try first | exact ⟨rfl, _, World.drewN_drewN _ _ _⟩ | exact ⟨rfl, _, Eq.trans (World.drewN_drewN _ _ _) (congrArg (World.drewN _) (Nat.add_assoc _ _ _))⟩))))
        go_ret
        exact ⟨by first | rfl | (simp [errW_none, errW_some] <;> rfl) | (simp [*, errW_none, errW_some] <;> rfl), by repeat (first | (with_reducible first | exact HB.out | apply below_alloc | apply pw_below_drewN | apply below_drew1 | refine below_set ?_ GE103.out | refine below_set ?_ GE104.out) | exact HB.out)⟩
      · rw [if_neg c20] at H
        have c20b0 : decide (t108 < 0) = false := decide_eq_false c20
        clear c20
        by_cases c26 : 0 ≤ t106
        · rw [if_pos c26] at H
          have c26b0 : decide (0 ≤ t106) = true := decide_eq_true c26
          clear c26
          by_cases c27 : t106 < (l0_5.length : Int)
          · rw [if_pos c27] at H
            have c27b0 : decide (t106 < (l0_5.length : Int)) = true := decide_eq_true c27
            clear c27
            by_cases c28 : t108 ≥ ((rd_L3 l0_5 t106).length : Int)
            · rw [if_pos c28] at H
              have c28b0 : decide (((rd_L3 l0_5 t106).length : Int) ≤ t108) = true := decide_eq_true c28
              clear c28
              obtain rfl := Option.some.inj H
              go_enter Try.func10, Try.ntmps10
              go_wp2_with (first | ((with_reducible refine gate_dst (N := 2) rfl ?_); (try (refine gate_guard (by rfl) ?_; dsimp only)); refine box_event ?hg (N := 2) ?hd (cs := #[.slice A0_0 l0_0.length c0_0, .slice A0_1 l0_1.length c0_1, .slice A0_2 l0_2.length c0_2, .slice A0_3 l0_3.length c0_3, .slice A0_4 l0_4.length c0_4, .slice A0_5 l0_5.length c0_5]) (t := 26) ?hr ?_; (case hd => rfl); (case hg => rfl); (case hr => first | (go_simp; done) | (go_simp; rfl)); intro gb103 hg w29 hbox hb; have n0_ := Aside0.mk (below_step (by repeat (first | (with_reducible first | exact HB.out | apply below_alloc | apply pw_below_drewN | apply below_drew1) | exact HB.out)) hb); have n1_ := Aside0.mk (hbox); have n2_ := Aside0.mk ((by rw [hg]; exact (below_size (by repeat (first | (with_reducible first | exact HB.out | apply below_alloc | apply pw_below_drewN | apply below_drew1) | exact HB.out))) : w.heap.size ≤ gb103)); have n3_ := Aside0.mk ((by rw [hg]; exact (below_size (by repeat (first | (with_reducible first | exact HB.out | apply below_alloc | apply pw_below_drewN | apply below_drew1) | exact HB.out))) : w.heap.size ≤ gb103)); clear HB; have HB := n0_; have BK103 := n1_; have GW103 := n2_; have GE103 := n3_; clear n0_ n1_ n2_ n3_; clear hb hbox hg) | ((with_reducible refine gate_dst (N := 3) rfl ?_); (try (refine gate_guard (by rfl) ?_; dsimp only)); refine box_event ?hg (N := 3) ?hd (cs := #[.string a1_0, .string a1_1, .string a1_2]) (t := 28) ?hr ?_; (case hd => rfl); (case hg => rfl); (case hr => first | (go_simp; done) | (go_simp; rfl)); intro gb104 hg w30 hbox hb; have n0_ := Aside0.mk (blk_below (g := gb103) (o := .cells #[.slice A0_0 l0_0.length c0_0, .slice A0_1 l0_1.length c0_1, .slice A0_2 l0_2.length c0_2, .slice A0_3 l0_3.length c0_3, .slice A0_4 l0_4.length c0_4, .slice A0_5 l0_5.length c0_5] 26 (0, 0)) (by (with_reducible repeat (first | refine blk_drewN ?_ _ | refine blk_drew ?_ | refine blk_alloc ?_ _)); exact BK103.out) hb); have n1_ := Aside0.mk (below_step (by repeat (first | (with_reducible first | exact HB.out | apply below_alloc | apply pw_below_drewN | apply below_drew1 | refine below_set ?_ GE103.out) | exact HB.out)) hb); have n2_ := Aside0.mk (hbox); have n3_ := Aside0.mk ((by rw [hg]; exact (below_size (by repeat (first | (with_reducible first | exact HB.out | apply below_alloc | apply pw_below_drewN | apply below_drew1 | refine below_set ?_ GE103.out) | exact HB.out))) : w.heap.size ≤ gb104)); have n4_ := Aside0.mk ((by rw [hg]; exact (below_size (by repeat (first | (with_reducible first | exact HB.out | apply below_alloc | apply pw_below_drewN | apply below_drew1 | refine below_set ?_ GE103.out) | exact HB.out))) : w.heap.size ≤ gb104)); have n5_ := Aside0.mk ((by rw [hg]; exact Nat.ne_of_lt (blk_lt (g := gb103) (o := .cells #[.slice A0_0 l0_0.length c0_0, .slice A0_1 l0_1.length c0_1, .slice A0_2 l0_2.length c0_2, .slice A0_3 l0_3.length c0_3, .slice A0_4 l0_4.length c0_4, .slice A0_5 l0_5.length c0_5] 26 (0, 0)) (by (with_reducible repeat (first | refine blk_drewN ?_ _ | refine blk_drew ?_ | refine blk_alloc ?_ _)); exact BK103.out)) : gb103 ≠ gb104)); have n6_ := Aside0.mk ((by rw [hg]; exact Nat.ne_of_gt (blk_lt (g := gb103) (o := .cells #[.slice A0_0 l0_0.length c0_0, .slice A0_1 l0_1.length c0_1, .slice A0_2 l0_2.length c0_2, .slice A0_3 l0_3.length c0_3, .slice A0_4 l0_4.length c0_4, .slice A0_5 l0_5.length c0_5] 26 (0, 0)) (by (with_reducible repeat (first | refine blk_drewN ?_ _ | refine blk_drew ?_ | refine blk_alloc ?_ _)); exact BK103.out)) : gb104 ≠ gb103)); clear BK103; clear HB; have BK103 := n0_; have HB := n1_; have BK104 := n2_; have GW104 := n3_; have GE104 := n4_; have NB103_104 := n5_; have NB104_103 := n6_; clear n0_ n1_ n2_ n3_ n4_ n5_ n6_; clear hb hbox hg; have hnb31 := NB103_104.out; have hnc31 := NB104_103.out; have hcz32_0 : w30.cell? ⟨gb103, 0, none⟩ = some (.slice A0_0 l0_0.length c0_0) := (blk_cell BK103.out 0).trans rfl; have hcz32_1 : w30.cell? ⟨gb103, 1, none⟩ = some (.slice A0_1 l0_1.length c0_1) := (blk_cell BK103.out 1).trans rfl; have hcz32_2 : w30.cell? ⟨gb103, 2, none⟩ = some (.slice A0_2 l0_2.length c0_2) := (blk_cell BK103.out 2).trans rfl; have hcz32_3 : w30.cell? ⟨gb103, 3, none⟩ = some (.slice A0_3 l0_3.length c0_3) := (blk_cell BK103.out 3).trans rfl; have hcz32_4 : w30.cell? ⟨gb103, 4, none⟩ = some (.slice A0_4 l0_4.length c0_4) := (blk_cell BK103.out 4).trans rfl; have hcz32_5 : w30.cell? ⟨gb103, 5, none⟩ = some (.slice A0_5 l0_5.length c0_5) := (blk_cell BK103.out 5).trans rfl; have hfz32_0 := blk_frozen BK103.out 0; have hfz32_1 := blk_frozen BK103.out 1; have hfz32_2 := blk_frozen BK103.out 2; have hfz32_3 := blk_frozen BK103.out 3; have hfz32_4 := blk_frozen BK103.out 4; have hfz32_5 := blk_frozen BK103.out 5; have hcz33_0 : w30.cell? ⟨gb104, 0, none⟩ = some (.string a1_0) := (blk_cell BK104.out 0).trans rfl; have hcz33_1 : w30.cell? ⟨gb104, 1, none⟩ = some (.string a1_1) := (blk_cell BK104.out 1).trans rfl; have hcz33_2 : w30.cell? ⟨gb104, 2, none⟩ = some (.string a1_2) := (blk_cell BK104.out 2).trans rfl; have hfz33_0 := blk_frozen BK104.out 0; have hfz33_1 := blk_frozen BK104.out 1; have hfz33_2 := blk_frozen BK104.out 2))
              repeat (go_quiet (first | (go_at_call 31; (with_reducible refine (slices_Index_string_string.calls k _ _ l0_1 a1_0 t105 _ ?side1 ?side2 A3.out).mono ?_); (case side1 => repeat (first | exact (Kd.C_below HR0_1.out HB.out) | (with_reducible refine Kd.C_alloc ?_ _) | (with_reducible refine Kd.C_drewN ?_ _) | (with_reducible refine Kd.C_drew ?_))); (case side2 => exact HC0_1.out); rintro e w' ⟨rfl, ⟨nd, rfl⟩⟩; (try first | exact ⟨rfl, _, World.drewN_drewN _ _ _⟩ | exact ⟨rfl, _, Eq.trans (World.drewN_drewN _ _ _) (congrArg (World.drewN _) (Nat.add_assoc _ _ _))⟩)) | (go_at_call 30; (with_reducible refine (graph_at.calls _ _ l0_3 t105 t106 _ ?side1 ?side2 A4.out).mono ?_); (case side1 => repeat (first | exact (Kd.C_below HR0_3.out (by repeat (first | (with_reducible first | exact HB.out | apply below_alloc | apply pw_below_drewN | apply below_drew1 | refine below_set ?_ GE103.out | refine below_set ?_ GE104.out) | exact HB.out))) | (with_reducible refine Kd.C_alloc ?_ _) | (with_reducible refine Kd.C_drewN ?_ _) | (with_reducible refine Kd.C_drew ?_))); (case side2 => exact HC0_3.out); rintro e w' ⟨rfl, ⟨nd, rfl⟩⟩; (try first | exact ⟨rfl, _, World.drewN_drewN _ _ _⟩ | exact ⟨rfl, _, Eq.trans (World.drewN_drewN _ _ _) (congrArg (World.drewN _) (Nat.add_assoc _ _ _))⟩)) | (go_at_call 31; (with_reducible refine (slices_Index_string_string.calls k _ _ l0_2 a1_1 t107 _ ?side1 ?side2 A5.out).mono ?_); (case side1 => repeat (first | exact (Kd.C_below HR0_2.out (by repeat (first | (with_reducible first | exact HB.out | apply below_alloc | apply pw_below_drewN | apply below_drew1 | refine below_set ?_ GE103.out | refine below_set ?_ GE104.out) | exact HB.out))) | (with_reducible refine Kd.C_alloc ?_ _) | (with_reducible refine Kd.C_drewN ?_ _) | (with_reducible refine Kd.C_drew ?_))); (case side2 => exact HC0_2.out); rintro e w' ⟨rfl, ⟨nd, rfl⟩⟩; (try first | exact ⟨rfl, _, World.drewN_drewN _ _ _⟩ | exact ⟨rfl, _, Eq.trans (World.drewN_drewN _ _ _) (congrArg (World.drewN _) (Nat.add_assoc _ _ _))⟩)) | (go_at_call 30; (with_reducible refine (graph_at.calls _ _ l0_4 t107 t108 _ ?side1 ?side2 A6.out).mono ?_); (case side1 => repeat (first | exact (Kd.C_below HR0_4.out (by repeat (first | (with_reducible first | exact HB.out | apply below_alloc | apply pw_below_drewN | apply below_drew1 | refine below_set ?_ GE103.out | refine below_set ?_ GE104.out) | exact HB.out))) | (with_reducible refine Kd.C_alloc ?_ _) | (with_reducible refine Kd.C_drewN ?_ _) | (with_reducible refine Kd.C_drew ?_))); (case side2 => exact HC0_4.out); rintro e w' ⟨rfl, ⟨nd, rfl⟩⟩; (try first | exact ⟨rfl, _, World.drewN_drewN _ _ _⟩ | exact ⟨rfl, _, Eq.trans (World.drewN_drewN _ _ _) (congrArg (World.drewN _) (Nat.add_assoc _ _ _))⟩)) | (go_at_call 31; (with_reducible refine (slices_Index_string_string.calls k _ _ l0_0 a1_2 t109 _ ?side1 ?side2 A7.out).mono ?_); (case side1 => repeat (first | exact (Kd.C_below HR0_0.out (by repeat (first | (with_reducible first | exact HB.out | apply below_alloc | apply pw_below_drewN | apply below_drew1 | refine below_set ?_ GE103.out | refine below_set ?_ GE104.out) | exact HB.out))) | (with_reducible refine Kd.C_alloc ?_ _) | (with_reducible refine Kd.C_drewN ?_ _) | (with_reducible refine Kd.C_drew ?_))); (case side2 => exact HC0_0.out); rintro e w' ⟨rfl, ⟨nd, rfl⟩⟩; (try first | exact ⟨rfl, _, World.drewN_drewN _ _ _⟩ | exact ⟨rfl, _, Eq.trans (World.drewN_drewN _ _ _) (congrArg (World.drewN _) (Nat.add_assoc _ _ _))⟩); have p110 : 0 ≤ (t106 : Int) := of_decide_eq_true (by first | (with_reducible assumption) | assumption); have q110 : t106 < (l0_5.length : Int) := of_decide_eq_true (by first | (with_reducible assumption) | assumption); obtain ⟨ad110, A110_0, c110_0, e110, hx110_0, hl110_0, hi110_0⟩ := at_L3 HR0_5.out t106 p110 q110; cases e110; replace hx110_0 := (HB.out.cell (World.block_lt_of_cell? w _ hx110_0)).trans hx110_0; have HR110_0 := Aside0.mk hi110_0; have HC110_0 := Aside0.mk hl110_0; clear hi110_0 hl110_0; replace p110 := eq_true p110; replace q110 := eq_true q110)); try go_wp2_with (first | (go_at_call 31; (with_reducible refine (slices_Index_string_string.calls k _ _ l0_1 a1_0 t105 _ ?side1 ?side2 A3.out).mono ?_); (case side1 => repeat (first | exact (Kd.C_below HR0_1.out HB.out) | (with_reducible refine Kd.C_alloc ?_ _) | (with_reducible refine Kd.C_drewN ?_ _) | (with_reducible refine Kd.C_drew ?_))); (case side2 => exact HC0_1.out); rintro e w' ⟨rfl, ⟨nd, rfl⟩⟩; (try first | exact ⟨rfl, _, World.drewN_drewN _ _ _⟩ | exact ⟨rfl, _, Eq.trans (World.drewN_drewN _ _ _) (congrArg (World.drewN _) (Nat.add_assoc _ _ _))⟩)) | (go_at_call 30; (with_reducible refine (graph_at.calls _ _ l0_3 t105 t106 _ ?side1 ?side2 A4.out).mono ?_); (case side1 => repeat (first | exact (Kd.C_below HR0_3.out (by repeat (first | (with_reducible first | exact HB.out | apply below_alloc | apply pw_below_drewN | apply below_drew1 | refine below_set ?_ GE103.out | refine below_set ?_ GE104.out) | exact HB.out))) | (with_reducible refine Kd.C_alloc ?_ _) | (with_reducible refine Kd.C_drewN ?_ _) | (with_reducible refine Kd.C_drew ?_))); (case side2 => exact HC0_3.out); rintro e w' ⟨rfl, ⟨nd, rfl⟩⟩; (try first | exact ⟨rfl, _, World.drewN_drewN _ _ _⟩ | exact ⟨rfl, _, Eq.trans (World.drewN_drewN _ _ _) (congrArg (World.drewN _) (Nat.add_assoc _ _ _))⟩)) | (go_at_call 31; (with_reducible refine (slices_Index_string_string.calls k _ _ l0_2 a1_1 t107 _ ?side1 ?side2 A5.out).mono ?_); (case side1 => repeat (first | exact (Kd.C_below HR0_2.out (by repeat (first | (with_reducible first | exact HB.out | apply below_alloc | apply pw_below_drewN | apply below_drew1 | refine below_set ?_ GE103.out | refine below_set ?_ GE104.out) | exact HB.out))) | (with_reducible refine Kd.C_alloc ?_ _) | (with_reducible refine Kd.C_drewN ?_ _) | (with_reducible refine Kd.C_drew ?_))); (case side2 => exact HC0_2.out); rintro e w' ⟨rfl, ⟨nd, rfl⟩⟩; (try first | exact ⟨rfl, _, World.drewN_drewN _ _ _⟩ | exact ⟨rfl, _, Eq.trans (World.drewN_drewN _ _ _) (congrArg (World.drewN _) (Nat.add_assoc _ _ _))⟩)) | (go_at_call 30; (with_reducible refine (graph_at.calls _ _ l0_4 t107 t108 _ ?side1 ?side2 A6.out).mono ?_); (case side1 => repeat (first | exact (Kd.C_below HR0_4.out (by repeat (first | (with_reducible first | exact HB.out | apply below_alloc | apply pw_below_drewN | apply below_drew1 | refine below_set ?_ GE103.out | refine below_set ?_ GE104.out) | exact HB.out))) | (with_reducible refine Kd.C_alloc ?_ _) | (with_reducible refine Kd.C_drewN ?_ _) | (with_reducible refine Kd.C_drew ?_))); (case side2 => exact HC0_4.out); rintro e w' ⟨rfl, ⟨nd, rfl⟩⟩; (try first | exact ⟨rfl, _, World.drewN_drewN _ _ _⟩ | exact ⟨rfl, _, Eq.trans (World.drewN_drewN _ _ _) (congrArg (World.drewN _) (Nat.add_assoc _ _ _))⟩)) | (go_at_call 31; (with_reducible refine (slices_Index_string_string.calls k _ _ l0_0 a1_2 t109 _ ?side1 ?side2 A7.out).mono ?_); (case side1 => repeat (first | exact (Kd.C_below HR0_0.out (by repeat (first | (with_reducible first | exact HB.out | apply below_alloc | apply pw_below_drewN | apply below_drew1 | refine below_set ?_ GE103.out | refine below_set ?_ GE104.out) | exact HB.out))) | (with_reducible refine Kd.C_alloc ?_ _) | (with_reducible refine Kd.C_drewN ?_ _) | (with_reducible refine Kd.C_drew ?_))); (case side2 => exact HC0_0.out); rintro e w' ⟨rfl, ⟨nd, rfl⟩⟩; (try first | exact ⟨rfl, _, World.drewN_drewN _ _ _⟩ | exact ⟨rfl, _, Eq.trans (World.drewN_drewN _ _ _) (congrArg (World.drewN _) (Nat.add_assoc _ _ _))⟩); have p110 : 0 ≤ (t106 : Int) := of_decide_eq_true (by first | (with_reducible assumption) | assumption); have q110 : t106 < (l0_5.length : Int) := of_decide_eq_true (by first | (with_reducible assumption) | assumption); obtain ⟨ad110, A110_0, c110_0, e110, hx110_0, hl110_0, hi110_0⟩ := at_L3 HR0_5.out t106 p110 q110; cases e110; replace hx110_0 := (HB.out.cell (World.block_lt_of_cell? w _ hx110_0)).trans hx110_0; have HR110_0 := Aside0.mk hi110_0; have HC110_0 := Aside0.mk hl110_0; clear hi110_0 hl110_0; replace p110 := eq_true p110; replace q110 := eq_true q110)))
              go_ret
              exact ⟨by first | rfl | (simp [errW_none, errW_some] <;> rfl) | (simp [*, errW_none, errW_some] <;> rfl), by repeat (first | (with_reducible first | exact HB.out | apply below_alloc | apply pw_below_drewN | apply below_drew1 | refine below_set ?_ GE103.out | refine below_set ?_ GE104.out) | exact HB.out)⟩
            · rw [if_neg c28] at H
              have c28b0 : decide (((rd_L3 l0_5 t106).length : Int) ≤ t108) = false := decide_eq_false c28
              clear c28
              by_cases c34 : t109 < 0
              · rw [if_pos c34] at H
                have c34b0 : decide (t109 < 0) = true := decide_eq_true c34
                clear c34
                obtain rfl := Option.some.inj H
                go_enter Try.func10, Try.ntmps10
                go_wp2_with (first | ((with_reducible refine gate_dst (N := 2) rfl ?_); (try (refine gate_guard (by rfl) ?_; dsimp only)); refine box_event ?hg (N := 2) ?hd (cs := #[.slice A0_0 l0_0.length c0_0, .slice A0_1 l0_1.length c0_1, .slice A0_2 l0_2.length c0_2, .slice A0_3 l0_3.length c0_3, .slice A0_4 l0_4.length c0_4, .slice A0_5 l0_5.length c0_5]) (t := 26) ?hr ?_; (case hd => rfl); (case hg => rfl); (case hr => first | (go_simp; done) | (go_simp; rfl)); intro gb103 hg w35 hbox hb; have n0_ := Aside0.mk (below_step (by repeat (first | (with_reducible first | exact HB.out | apply below_alloc | apply pw_below_drewN | apply below_drew1) | exact HB.out)) hb); have n1_ := Aside0.mk (hbox); have n2_ := Aside0.mk ((by rw [hg]; exact (below_size (by repeat (first | (with_reducible first | exact HB.out | apply below_alloc | apply pw_below_drewN | apply below_drew1) | exact HB.out))) : w.heap.size ≤ gb103)); have n3_ := Aside0.mk ((by rw [hg]; exact (below_size (by repeat (first | (with_reducible first | exact HB.out | apply below_alloc | apply pw_below_drewN | apply below_drew1) | exact HB.out))) : w.heap.size ≤ gb103)); clear HB; have HB := n0_; have BK103 := n1_; have GW103 := n2_; have GE103 := n3_; clear n0_ n1_ n2_ n3_; clear hb hbox hg) | ((with_reducible refine gate_dst (N := 3) rfl ?_); (try (refine gate_guard (by rfl) ?_; dsimp only)); refine box_event ?hg (N := 3) ?hd (cs := #[.string a1_0, .string a1_1, .string a1_2]) (t := 28) ?hr ?_; (case hd => rfl); (case hg => rfl); (case hr => first | (go_simp; done) | (go_simp; rfl)); intro gb104 hg w36 hbox hb; have n0_ := Aside0.mk (blk_below (g := gb103) (o := .cells #[.slice A0_0 l0_0.length c0_0, .slice A0_1 l0_1.length c0_1, .slice A0_2 l0_2.length c0_2, .slice A0_3 l0_3.length c0_3, .slice A0_4 l0_4.length c0_4, .slice A0_5 l0_5.length c0_5] 26 (0, 0)) (by (with_reducible repeat (first | refine blk_drewN ?_ _ | refine blk_drew ?_ | refine blk_alloc ?_ _)); exact BK103.out) hb); have n1_ := Aside0.mk (below_step (by repeat (first | (with_reducible first | exact HB.out | apply below_alloc | apply pw_below_drewN | apply below_drew1 | refine below_set ?_ GE103.out) | exact HB.out)) hb); have n2_ := Aside0.mk (hbox); have n3_ := Aside0.mk ((by rw [hg]; exact (below_size (by repeat (first | (with_reducible first | exact HB.out | apply below_alloc | apply pw_below_drewN | apply below_drew1 | refine below_set ?_ GE103.out) | exact HB.out))) : w.heap.size ≤ gb104)); have n4_ := Aside0.mk ((by rw [hg]; exact (below_size (by repeat (first | (with_reducible first | exact HB.out | apply below_alloc | apply pw_below_drewN | apply below_drew1 | refine below_set ?_ GE103.out) | exact HB.out))) : w.heap.size ≤ gb104)); have n5_ := Aside0.mk ((by rw [hg]; exact Nat.ne_of_lt (blk_lt (g := gb103) (o := .cells #[.slice A0_0 l0_0.length c0_0, .slice A0_1 l0_1.length c0_1, .slice A0_2 l0_2.length c0_2, .slice A0_3 l0_3.length c0_3, .slice A0_4 l0_4.length c0_4, .slice A0_5 l0_5.length c0_5] 26 (0, 0)) (by (with_reducible repeat (first | refine blk_drewN ?_ _ | refine blk_drew ?_ | refine blk_alloc ?_ _)); exact BK103.out)) : gb103 ≠ gb104)); have n6_ := Aside0.mk ((by rw [hg]; exact Nat.ne_of_gt (blk_lt (g := gb103) (o := .cells #[.slice A0_0 l0_0.length c0_0, .slice A0_1 l0_1.length c0_1, .slice A0_2 l0_2.length c0_2, .slice A0_3 l0_3.length c0_3, .slice A0_4 l0_4.length c0_4, .slice A0_5 l0_5.length c0_5] 26 (0, 0)) (by (with_reducible repeat (first | refine blk_drewN ?_ _ | refine blk_drew ?_ | refine blk_alloc ?_ _)); exact BK103.out)) : gb104 ≠ gb103)); clear BK103; clear HB; have BK103 := n0_; have HB := n1_; have BK104 := n2_; have GW104 := n3_; have GE104 := n4_; have NB103_104 := n5_; have NB104_103 := n6_; clear n0_ n1_ n2_ n3_ n4_ n5_ n6_; clear hb hbox hg; have hnb37 := NB103_104.out; have hnc37 := NB104_103.out; have hcz38_0 : w36.cell? ⟨gb103, 0, none⟩ = some (.slice A0_0 l0_0.length c0_0) := (blk_cell BK103.out 0).trans rfl; have hcz38_1 : w36.cell? ⟨gb103, 1, none⟩ = some (.slice A0_1 l0_1.length c0_1) := (blk_cell BK103.out 1).trans rfl; have hcz38_2 : w36.cell? ⟨gb103, 2, none⟩ = some (.slice A0_2 l0_2.length c0_2) := (blk_cell BK103.out 2).trans rfl; have hcz38_3 : w36.cell? ⟨gb103, 3, none⟩ = some (.slice A0_3 l0_3.length c0_3) := (blk_cell BK103.out 3).trans rfl; have hcz38_4 : w36.cell? ⟨gb103, 4, none⟩ = some (.slice A0_4 l0_4.length c0_4) := (blk_cell BK103.out 4).trans rfl; have hcz38_5 : w36.cell? ⟨gb103, 5, none⟩ = some (.slice A0_5 l0_5.length c0_5) := (blk_cell BK103.out 5).trans rfl; have hfz38_0 := blk_frozen BK103.out 0; have hfz38_1 := blk_frozen BK103.out 1; have hfz38_2 := blk_frozen BK103.out 2; have hfz38_3 := blk_frozen BK103.out 3; have hfz38_4 := blk_frozen BK103.out 4; have hfz38_5 := blk_frozen BK103.out 5; have hcz39_0 : w36.cell? ⟨gb104, 0, none⟩ = some (.string a1_0) := (blk_cell BK104.out 0).trans rfl; have hcz39_1 : w36.cell? ⟨gb104, 1, none⟩ = some (.string a1_1) := (blk_cell BK104.out 1).trans rfl; have hcz39_2 : w36.cell? ⟨gb104, 2, none⟩ = some (.string a1_2) := (blk_cell BK104.out 2).trans rfl; have hfz39_0 := blk_frozen BK104.out 0; have hfz39_1 := blk_frozen BK104.out 1; have hfz39_2 := blk_frozen BK104.out 2))
                repeat (go_quiet (first | (go_at_call 31; (with_reducible refine (slices_Index_string_string.calls k _ _ l0_1 a1_0 t105 _ ?side1 ?side2 A3.out).mono ?_); (case side1 => repeat (first | exact (Kd.C_below HR0_1.out HB.out) | (with_reducible refine Kd.C_alloc ?_ _) | (with_reducible refine Kd.C_drewN ?_ _) | (with_reducible refine Kd.C_drew ?_))); (case side2 => exact HC0_1.out); rintro e w' ⟨rfl, ⟨nd, rfl⟩⟩; (try first | exact ⟨rfl, _, World.drewN_drewN _ _ _⟩ | exact ⟨rfl, _, Eq.trans (World.drewN_drewN _ _ _) (congrArg (World.drewN _) (Nat.add_assoc _ _ _))⟩)) | (go_at_call 30; (with_reducible refine (graph_at.calls _ _ l0_3 t105 t106 _ ?side1 ?side2 A4.out).mono ?_); (case side1 => repeat (first | exact (Kd.C_below HR0_3.out (by repeat (first | (with_reducible first | exact HB.out | apply below_alloc | apply pw_below_drewN | apply below_drew1 | refine below_set ?_ GE103.out | refine below_set ?_ GE104.out) | exact HB.out))) | (with_reducible refine Kd.C_alloc ?_ _) | (with_reducible refine Kd.C_drewN ?_ _) | (with_reducible refine Kd.C_drew ?_))); (case side2 => exact HC0_3.out); rintro e w' ⟨rfl, ⟨nd, rfl⟩⟩; (try first | exact ⟨rfl, _, World.drewN_drewN _ _ _⟩ | exact ⟨rfl, _, Eq.trans (World.drewN_drewN _ _ _) (congrArg (World.drewN _) (Nat.add_assoc _ _ _))⟩)) | (go_at_call 31; (with_reducible refine (slices_Index_string_string.calls k _ _ l0_2 a1_1 t107 _ ?side1 ?side2 A5.out).mono ?_); (case side1 => repeat (first | exact (Kd.C_below HR0_2.out (by repeat (first | (with_reducible first | exact HB.out | apply below_alloc | apply pw_below_drewN | apply below_drew1 | refine below_set ?_ GE103.out | refine below_set ?_ GE104.out) | exact HB.out))) | (with_reducible refine Kd.C_alloc ?_ _) | (with_reducible refine Kd.C_drewN ?_ _) | (with_reducible refine Kd.C_drew ?_))); (case side2 => exact HC0_2.out); rintro e w' ⟨rfl, ⟨nd, rfl⟩⟩; (try first | exact ⟨rfl, _, World.drewN_drewN _ _ _⟩ | exact ⟨rfl, _, Eq.trans (World.drewN_drewN _ _ _) (congrArg (World.drewN _) (Nat.add_assoc _ _ _))⟩)) | (go_at_call 30; (with_reducible refine (graph_at.calls _ _ l0_4 t107 t108 _ ?side1 ?side2 A6.out).mono ?_); (case side1 => repeat (first | exact (Kd.C_below HR0_4.out (by repeat (first | (with_reducible first | exact HB.out | apply below_alloc | apply pw_below_drewN | apply below_drew1 | refine below_set ?_ GE103.out | refine below_set ?_ GE104.out) | exact HB.out))) | (with_reducible refine Kd.C_alloc ?_ _) | (with_reducible refine Kd.C_drewN ?_ _) | (with_reducible refine Kd.C_drew ?_))); (case side2 => exact HC0_4.out); rintro e w' ⟨rfl, ⟨nd, rfl⟩⟩; (try first | exact ⟨rfl, _, World.drewN_drewN _ _ _⟩ | exact ⟨rfl, _, Eq.trans (World.drewN_drewN _ _ _) (congrArg (World.drewN _) (Nat.add_assoc _ _ _))⟩)) | (go_at_call 31; (with_reducible refine (slices_Index_string_string.calls k _ _ l0_0 a1_2 t109 _ ?side1 ?side2 A7.out).mono ?_); (case side1 => repeat (first | exact (Kd.C_below HR0_0.out (by repeat (first | (with_reducible first | exact HB.out | apply below_alloc | apply pw_below_drewN | apply below_drew1 | refine below_set ?_ GE103.out | refine below_set ?_ GE104.out) | exact HB.out))) | (with_reducible refine Kd.C_alloc ?_ _) | (with_reducible refine Kd.C_drewN ?_ _) | (with_reducible refine Kd.C_drew ?_))); (case side2 => exact HC0_0.out); rintro e w' ⟨rfl, ⟨nd, rfl⟩⟩; (try first | exact ⟨rfl, _, World.drewN_drewN _ _ _⟩ | exact ⟨rfl, _, Eq.trans (World.drewN_drewN _ _ _) (congrArg (World.drewN _) (Nat.add_assoc _ _ _))⟩); have p110 : 0 ≤ (t106 : Int) := of_decide_eq_true (by first | (with_reducible assumption) | assumption); have q110 : t106 < (l0_5.length : Int) := of_decide_eq_true (by first | (with_reducible assumption) | assumption); obtain ⟨ad110, A110_0, c110_0, e110, hx110_0, hl110_0, hi110_0⟩ := at_L3 HR0_5.out t106 p110 q110; cases e110; replace hx110_0 := (HB.out.cell (World.block_lt_of_cell? w _ hx110_0)).trans hx110_0; have HR110_0 := Aside0.mk hi110_0; have HC110_0 := Aside0.mk hl110_0; clear hi110_0 hl110_0; replace p110 := eq_true p110; replace q110 := eq_true q110)); try go_wp2_with (first | (go_at_call 31; (with_reducible refine (slices_Index_string_string.calls k _ _ l0_1 a1_0 t105 _ ?side1 ?side2 A3.out).mono ?_); (case side1 => repeat (first | exact (Kd.C_below HR0_1.out HB.out) | (with_reducible refine Kd.C_alloc ?_ _) | (with_reducible refine Kd.C_drewN ?_ _) | (with_reducible refine Kd.C_drew ?_))); (case side2 => exact HC0_1.out); rintro e w' ⟨rfl, ⟨nd, rfl⟩⟩; (try first | exact ⟨rfl, _, World.drewN_drewN _ _ _⟩ | exact ⟨rfl, _, Eq.trans (World.drewN_drewN _ _ _) (congrArg (World.drewN _) (Nat.add_assoc _ _ _))⟩)) | (go_at_call 30; (with_reducible refine (graph_at.calls _ _ l0_3 t105 t106 _ ?side1 ?side2 A4.out).mono ?_); (case side1 => repeat (first | exact (Kd.C_below HR0_3.out (by repeat (first | (with_reducible first | exact HB.out | apply below_alloc | apply pw_below_drewN | apply below_drew1 | refine below_set ?_ GE103.out | refine below_set ?_ GE104.out) | exact HB.out))) | (with_reducible refine Kd.C_alloc ?_ _) | (with_reducible refine Kd.C_drewN ?_ _) | (with_reducible refine Kd.C_drew ?_))); (case side2 => exact HC0_3.out); rintro e w' ⟨rfl, ⟨nd, rfl⟩⟩; (try first | exact ⟨rfl, _, World.drewN_drewN _ _ _⟩ | exact ⟨rfl, _, Eq.trans (World.drewN_drewN _ _ _) (congrArg (World.drewN _) (Nat.add_assoc _ _ _))⟩)) | (go_at_call 31; (with_reducible refine (slices_Index_string_string.calls k _ _ l0_2 a1_1 t107 _ ?side1 ?side2 A5.out).mono ?_); (case side1 => repeat (first | exact (Kd.C_below HR0_2.out (by repeat (first | (with_reducible first | exact HB.out | apply below_alloc | apply pw_below_drewN | apply below_drew1 | refine below_set ?_ GE103.out | refine below_set ?_ GE104.out) | exact HB.out))) | (with_reducible refine Kd.C_alloc ?_ _) | (with_reducible refine Kd.C_drewN ?_ _) | (with_reducible refine Kd.C_drew ?_))); (case side2 => exact HC0_2.out); rintro e w' ⟨rfl, ⟨nd, rfl⟩⟩; (try first | exact ⟨rfl, _, World.drewN_drewN _ _ _⟩ | exact ⟨rfl, _, Eq.trans (World.drewN_drewN _ _ _) (congrArg (World.drewN _) (Nat.add_assoc _ _ _))⟩)) | (go_at_call 30; (with_reducible refine (graph_at.calls _ _ l0_4 t107 t108 _ ?side1 ?side2 A6.out).mono ?_); (case side1 => repeat (first | exact (Kd.C_below HR0_4.out (by repeat (first | (with_reducible first | exact HB.out | apply below_alloc | apply pw_below_drewN | apply below_drew1 | refine below_set ?_ GE103.out | refine below_set ?_ GE104.out) | exact HB.out))) | (with_reducible refine Kd.C_alloc ?_ _) | (with_reducible refine Kd.C_drewN ?_ _) | (with_reducible refine Kd.C_drew ?_))); (case side2 => exact HC0_4.out); rintro e w' ⟨rfl, ⟨nd, rfl⟩⟩; (try first | exact ⟨rfl, _, World.drewN_drewN _ _ _⟩ | exact ⟨rfl, _, Eq.trans (World.drewN_drewN _ _ _) (congrArg (World.drewN _) (Nat.add_assoc _ _ _))⟩)) | (go_at_call 31; (with_reducible refine (slices_Index_string_string.calls k _ _ l0_0 a1_2 t109 _ ?side1 ?side2 A7.out).mono ?_); (case side1 => repeat (first | exact (Kd.C_below HR0_0.out (by repeat (first | (with_reducible first | exact HB.out | apply below_alloc | apply pw_below_drewN | apply below_drew1 | refine below_set ?_ GE103.out | refine below_set ?_ GE104.out) | exact HB.out))) | (with_reducible refine Kd.C_alloc ?_ _) | (with_reducible refine Kd.C_drewN ?_ _) | (with_reducible refine Kd.C_drew ?_))); (case side2 => exact HC0_0.out); rintro e w' ⟨rfl, ⟨nd, rfl⟩⟩; (try first | exact ⟨rfl, _, World.drewN_drewN _ _ _⟩ | exact ⟨rfl, _, Eq.trans (World.drewN_drewN _ _ _) (congrArg (World.drewN _) (Nat.add_assoc _ _ _))⟩); have p110 : 0 ≤ (t106 : Int) := of_decide_eq_true (by first | (with_reducible assumption) | assumption); have q110 : t106 < (l0_5.length : Int) := of_decide_eq_true (by first | (with_reducible assumption) | assumption); obtain ⟨ad110, A110_0, c110_0, e110, hx110_0, hl110_0, hi110_0⟩ := at_L3 HR0_5.out t106 p110 q110; cases e110; replace hx110_0 := (HB.out.cell (World.block_lt_of_cell? w _ hx110_0)).trans hx110_0; have HR110_0 := Aside0.mk hi110_0; have HC110_0 := Aside0.mk hl110_0; clear hi110_0 hl110_0; replace p110 := eq_true p110; replace q110 := eq_true q110)))
                go_ret
                exact ⟨by first | rfl | (simp [errW_none, errW_some] <;> rfl) | (simp [*, errW_none, errW_some] <;> rfl), by repeat (first | (with_reducible first | exact HB.out | apply below_alloc | apply pw_below_drewN | apply below_drew1 | refine below_set ?_ GE103.out | refine below_set ?_ GE104.out) | exact HB.out)⟩
              · rw [if_neg c34] at H
                have c34b0 : decide (t109 < 0) = false := decide_eq_false c34
                clear c34
                by_cases c40 : t109 ≥ 16
                · rw [if_pos c40] at H
                  have c40b0 : decide (16 ≤ t109) = true := decide_eq_true c40
                  clear c40
                  obtain rfl := Option.some.inj H
                  go_enter Try.func10, Try.ntmps10
                  go_wp2_with (first | ((with_reducible refine gate_dst (N := 2) rfl ?_); (try (refine gate_guard (by rfl) ?_; dsimp only)); refine box_event ?hg (N := 2) ?hd (cs := #[.slice A0_0 l0_0.length c0_0, .slice A0_1 l0_1.length c0_1, .slice A0_2 l0_2.length c0_2, .slice A0_3 l0_3.length c0_3, .slice A0_4 l0_4.length c0_4, .slice A0_5 l0_5.length c0_5]) (t := 26) ?hr ?_; (case hd => rfl); (case hg => rfl); (case hr => first | (go_simp; done) | (go_simp; rfl)); intro gb103 hg w41 hbox hb; have n0_ := Aside0.mk (below_step (by repeat (first | (with_reducible first | exact HB.out | apply below_alloc | apply pw_below_drewN | apply below_drew1) | exact HB.out)) hb); have n1_ := Aside0.mk (hbox); have n2_ := Aside0.mk ((by rw [hg]; exact (below_size (by repeat (first | (with_reducible first | exact HB.out | apply below_alloc | apply pw_below_drewN | apply below_drew1) | exact HB.out))) : w.heap.size ≤ gb103)); have n3_ := Aside0.mk ((by rw [hg]; exact (below_size (by repeat (first | (with_reducible first | exact HB.out | apply below_alloc | apply pw_below_drewN | apply below_drew1) | exact HB.out))) : w.heap.size ≤ gb103)); clear HB; have HB := n0_; have BK103 := n1_; have GW103 := n2_; have GE103 := n3_; clear n0_ n1_ n2_ n3_; clear hb hbox hg) | ((with_reducible refine gate_dst (N := 3) rfl ?_); (try (refine gate_guard (by rfl) ?_; dsimp only)); refine box_event ?hg (N := 3) ?hd (cs := #[.string a1_0, .string a1_1, .string a1_2]) (t := 28) ?hr ?_; (case hd => rfl); (case hg => rfl); (case hr => first | (go_simp; done) | (go_simp; rfl)); intro gb104 hg w42 hbox hb; have n0_ := Aside0.mk (blk_below (g := gb103) (o := .cells #[.slice A0_0 l0_0.length c0_0, .slice A0_1 l0_1.length c0_1, .slice A0_2 l0_2.length c0_2, .slice A0_3 l0_3.length c0_3, .slice A0_4 l0_4.length c0_4, .slice A0_5 l0_5.length c0_5] 26 (0, 0)) (by (with_reducible repeat (first | refine blk_drewN ?_ _ | refine blk_drew ?_ | refine blk_alloc ?_ _)); exact BK103.out) hb); have n1_ := Aside0.mk (below_step (by repeat (first | (with_reducible first | exact HB.out | apply below_alloc | apply pw_below_drewN | apply below_drew1 | refine below_set ?_ GE103.out) | exact HB.out)) hb); have n2_ := Aside0.mk (hbox); have n3_ := Aside0.mk ((by rw [hg]; exact (below_size (by repeat (first | (with_reducible first | exact HB.out | apply below_alloc | apply pw_below_drewN | apply below_drew1 | refine below_set ?_ GE103.out) | exact HB.out))) : w.heap.size ≤ gb104)); have n4_ := Aside0.mk ((by rw [hg]; exact (below_size (by repeat (first | (with_reducible first | exact HB.out | apply below_alloc | apply pw_below_drewN | apply below_drew1 | refine below_set ?_ GE103.out) | exact HB.out))) : w.heap.size ≤ gb104)); have n5_ := Aside0.mk ((by rw [hg]; exact Nat.ne_of_lt (blk_lt (g := gb103) (o := .cells #[.slice A0_0 l0_0.length c0_0, .slice A0_1 l0_1.length c0_1, .slice A0_2 l0_2.length c0_2, .slice A0_3 l0_3.length c0_3, .slice A0_4 l0_4.length c0_4, .slice A0_5 l0_5.length c0_5] 26 (0, 0)) (by (with_reducible repeat (first | refine blk_drewN ?_ _ | refine blk_drew ?_ | refine blk_alloc ?_ _)); exact BK103.out)) : gb103 ≠ gb104)); have n6_ := Aside0.mk ((by rw [hg]; exact Nat.ne_of_gt (blk_lt (g := gb103) (o := .cells #[.slice A0_0 l0_0.length c0_0, .slice A0_1 l0_1.length c0_1, .slice A0_2 l0_2.length c0_2, .slice A0_3 l0_3.length c0_3, .slice A0_4 l0_4.length c0_4, .slice A0_5 l0_5.length c0_5] 26 (0, 0)) (by (with_reducible repeat (first | refine blk_drewN ?_ _ | refine blk_drew ?_ | refine blk_alloc ?_ _)); exact BK103.out)) : gb104 ≠ gb103)); clear BK103; clear HB; have BK103 := n0_; have HB := n1_; have BK104 := n2_; have GW104 := n3_; have GE104 := n4_; have NB103_104 := n5_; have NB104_103 := n6_; clear n0_ n1_ n2_ n3_ n4_ n5_ n6_; clear hb hbox hg; have hnb43 := NB103_104.out; have hnc43 := NB104_103.out; have hcz44_0 : w42.cell? ⟨gb103, 0, none⟩ = some (.slice A0_0 l0_0.length c0_0) := (blk_cell BK103.out 0).trans rfl; have hcz44_1 : w42.cell? ⟨gb103, 1, none⟩ = some (.slice A0_1 l0_1.length c0_1) := (blk_cell BK103.out 1).trans rfl; have hcz44_2 : w42.cell? ⟨gb103, 2, none⟩ = some (.slice A0_2 l0_2.length c0_2) := (blk_cell BK103.out 2).trans rfl; have hcz44_3 : w42.cell? ⟨gb103, 3, none⟩ = some (.slice A0_3 l0_3.length c0_3) := (blk_cell BK103.out 3).trans rfl; have hcz44_4 : w42.cell? ⟨gb103, 4, none⟩ = some (.slice A0_4 l0_4.length c0_4) := (blk_cell BK103.out 4).trans rfl; have hcz44_5 : w42.cell? ⟨gb103, 5, none⟩ = some (.slice A0_5 l0_5.length c0_5) := (blk_cell BK103.out 5).trans rfl; have hfz44_0 := blk_frozen BK103.out 0; have hfz44_1 := blk_frozen BK103.out 1; have hfz44_2 := blk_frozen BK103.out 2; have hfz44_3 := blk_frozen BK103.out 3; have hfz44_4 := blk_frozen BK103.out 4; have hfz44_5 := blk_frozen BK103.out 5; have hcz45_0 : w42.cell? ⟨gb104, 0, none⟩ = some (.string a1_0) := (blk_cell BK104.out 0).trans rfl; have hcz45_1 : w42.cell? ⟨gb104, 1, none⟩ = some (.string a1_1) := (blk_cell BK104.out 1).trans rfl; have hcz45_2 : w42.cell? ⟨gb104, 2, none⟩ = some (.string a1_2) := (blk_cell BK104.out 2).trans rfl; have hfz45_0 := blk_frozen BK104.out 0; have hfz45_1 := blk_frozen BK104.out 1; have hfz45_2 := blk_frozen BK104.out 2))
                  repeat (go_quiet (first | (go_at_call 31; (with_reducible refine (slices_Index_string_string.calls k _ _ l0_1 a1_0 t105 _ ?side1 ?side2 A3.out).mono ?_); (case side1 => repeat (first | exact (Kd.C_below HR0_1.out HB.out) | (with_reducible refine Kd.C_alloc ?_ _) | (with_reducible refine Kd.C_drewN ?_ _) | (with_reducible refine Kd.C_drew ?_))); (case side2 => exact HC0_1.out); rintro e w' ⟨rfl, ⟨nd, rfl⟩⟩; (try first | exact ⟨rfl, _, World.drewN_drewN _ _ _⟩ | exact ⟨rfl, _, Eq.trans (World.drewN_drewN _ _ _) (congrArg (World.drewN _) (Nat.add_assoc _ _ _))⟩)) | (go_at_call 30; (with_reducible refine (graph_at.calls _ _ l0_3 t105 t106 _ ?side1 ?side2 A4.out).mono ?_); (case side1 => repeat (first | exact (Kd.C_below HR0_3.out (by repeat (first | (with_reducible first | exact HB.out | apply below_alloc | apply pw_below_drewN | apply below_drew1 | refine below_set ?_ GE103.out | refine below_set ?_ GE104.out) | exact HB.out))) | (with_reducible refine Kd.C_alloc ?_ _) | (with_reducible refine Kd.C_drewN ?_ _) | (with_reducible refine Kd.C_drew ?_))); (case side2 => exact HC0_3.out); rintro e w' ⟨rfl, ⟨nd, rfl⟩⟩; (try first | exact ⟨rfl, _, World.drewN_drewN _ _ _⟩ | exact ⟨rfl, _, Eq.trans (World.drewN_drewN _ _ _) (congrArg (World.drewN _) (Nat.add_assoc _ _ _))⟩)) | (go_at_call 31; (with_reducible refine (slices_Index_string_string.calls k _ _ l0_2 a1_1 t107 _ ?side1 ?side2 A5.out).mono ?_); (case side1 => repeat (first | exact (Kd.C_below HR0_2.out (by repeat (first | (with_reducible first | exact HB.out | apply below_alloc | apply pw_below_drewN | apply below_drew1 | refine below_set ?_ GE103.out | refine below_set ?_ GE104.out) | exact HB.out))) | (with_reducible refine Kd.C_alloc ?_ _) | (with_reducible refine Kd.C_drewN ?_ _) | (with_reducible refine Kd.C_drew ?_))); (case side2 => exact HC0_2.out); rintro e w' ⟨rfl, ⟨nd, rfl⟩⟩; (try first | exact ⟨rfl, _, World.drewN_drewN _ _ _⟩ | exact ⟨rfl, _, Eq.trans (World.drewN_drewN _ _ _) (congrArg (World.drewN _) (Nat.add_assoc _ _ _))⟩)) | (go_at_call 30; (with_reducible refine (graph_at.calls _ _ l0_4 t107 t108 _ ?side1 ?side2 A6.out).mono ?_); (case side1 => repeat (first | exact (Kd.C_below HR0_4.out (by repeat (first | (with_reducible first | exact HB.out | apply below_alloc | apply pw_below_drewN | apply below_drew1 | refine below_set ?_ GE103.out | refine below_set ?_ GE104.out) | exact HB.out))) | (with_reducible refine Kd.C_alloc ?_ _) | (with_reducible refine Kd.C_drewN ?_ _) | (with_reducible refine Kd.C_drew ?_))); (case side2 => exact HC0_4.out); rintro e w' ⟨rfl, ⟨nd, rfl⟩⟩; (try first | exact ⟨rfl, _, World.drewN_drewN _ _ _⟩ | exact ⟨rfl, _, Eq.trans (World.drewN_drewN _ _ _) (congrArg (World.drewN _) (Nat.add_assoc _ _ _))⟩)) | (go_at_call 31; (with_reducible refine (slices_Index_string_string.calls k _ _ l0_0 a1_2 t109 _ ?side1 ?side2 A7.out).mono ?_); (case side1 => repeat (first | exact (Kd.C_below HR0_0.out (by repeat (first | (with_reducible first | exact HB.out | apply below_alloc | apply pw_below_drewN | apply below_drew1 | refine below_set ?_ GE103.out | refine below_set ?_ GE104.out) | exact HB.out))) | (with_reducible refine Kd.C_alloc ?_ _) | (with_reducible refine Kd.C_drewN ?_ _) | (with_reducible refine Kd.C_drew ?_))); (case side2 => exact HC0_0.out); rintro e w' ⟨rfl, ⟨nd, rfl⟩⟩; (try first | exact ⟨rfl, _, World.drewN_drewN _ _ _⟩ | exact ⟨rfl, _, Eq.trans (World.drewN_drewN _ _ _) (congrArg (World.drewN _) (Nat.add_assoc _ _ _))⟩); have p110 : 0 ≤ (t106 : Int) := of_decide_eq_true (by first | (with_reducible assumption) | assumption); have q110 : t106 < (l0_5.length : Int) := of_decide_eq_true (by first | (with_reducible assumption) | assumption); obtain ⟨ad110, A110_0, c110_0, e110, hx110_0, hl110_0, hi110_0⟩ := at_L3 HR0_5.out t106 p110 q110; cases e110; replace hx110_0 := (HB.out.cell (World.block_lt_of_cell? w _ hx110_0)).trans hx110_0; have HR110_0 := Aside0.mk hi110_0; have HC110_0 := Aside0.mk hl110_0; clear hi110_0 hl110_0; replace p110 := eq_true p110; replace q110 := eq_true q110)); try go_wp2_with (first | (go_at_call 31; (with_reducible refine (slices_Index_string_string.calls k _ _ l0_1 a1_0 t105 _ ?side1 ?side2 A3.out).mono ?_); (case side1 => repeat (first | exact (Kd.C_below HR0_1.out HB.out) | (with_reducible refine Kd.C_alloc ?_ _) | (with_reducible refine Kd.C_drewN ?_ _) | (with_reducible refine Kd.C_drew ?_))); (case side2 => exact HC0_1.out); rintro e w' ⟨rfl, ⟨nd, rfl⟩⟩; (try first | exact ⟨rfl, _, World.drewN_drewN _ _ _⟩ | exact ⟨rfl, _, Eq.trans (World.drewN_drewN _ _ _) (congrArg (World.drewN _) (Nat.add_assoc _ _ _))⟩)) | (go_at_call 30; (with_reducible refine (graph_at.calls _ _ l0_3 t105 t106 _ ?side1 ?side2 A4.out).mono ?_); (case side1 => repeat (first | exact (Kd.C_below HR0_3.out (by repeat (first | (with_reducible first | exact HB.out | apply below_alloc | apply pw_below_drewN | apply below_drew1 | refine below_set ?_ GE103.out | refine below_set ?_ GE104.out) | exact HB.out))) | (with_reducible refine Kd.C_alloc ?_ _) | (with_reducible refine Kd.C_drewN ?_ _) | (with_reducible refine Kd.C_drew ?_))); (case side2 => exact HC0_3.out); rintro e w' ⟨rfl, ⟨nd, rfl⟩⟩; (try first | exact ⟨rfl, _, World.drewN_drewN _ _ _⟩ | exact ⟨rfl, _, Eq.trans (World.drewN_drewN _ _ _) (congrArg (World.drewN _) (Nat.add_assoc _ _ _))⟩)) | (go_at_call 31; (with_reducible refine (slices_Index_string_string.calls k _ _ l0_2 a1_1 t107 _ ?side1 ?side2 A5.out).mono ?_); (case side1 => repeat (first | exact (Kd.C_below HR0_2.out (by repeat (first | (with_reducible first | exact HB.out | apply below_alloc | apply pw_below_drewN | apply below_drew1 | refine below_set ?_ GE103.out | refine below_set ?_ GE104.out) | exact HB.out))) | (with_reducible refine Kd.C_alloc ?_ _) | (with_reducible refine Kd.C_drewN ?_ _) | (with_reducible refine Kd.C_drew ?_))); (case side2 => exact HC0_2.out); rintro e w' ⟨rfl, ⟨nd, rfl⟩⟩; (try first | exact ⟨rfl, _, World.drewN_drewN _ _ _⟩ | exact ⟨rfl, _, Eq.trans (World.drewN_drewN _ _ _) (congrArg (World.drewN _) (Nat.add_assoc _ _ _))⟩)) | (go_at_call 30; (with_reducible refine (graph_at.calls _ _ l0_4 t107 t108 _ ?side1 ?side2 A6.out).mono ?_); (case side1 => repeat (first | exact (Kd.C_below HR0_4.out (by repeat (first | (with_reducible first | exact HB.out | apply below_alloc | apply pw_below_drewN | apply below_drew1 | refine below_set ?_ GE103.out | refine below_set ?_ GE104.out) | exact HB.out))) | (with_reducible refine Kd.C_alloc ?_ _) | (with_reducible refine Kd.C_drewN ?_ _) | (with_reducible refine Kd.C_drew ?_))); (case side2 => exact HC0_4.out); rintro e w' ⟨rfl, ⟨nd, rfl⟩⟩; (try first | exact ⟨rfl, _, World.drewN_drewN _ _ _⟩ | exact ⟨rfl, _, Eq.trans (World.drewN_drewN _ _ _) (congrArg (World.drewN _) (Nat.add_assoc _ _ _))⟩)) | (go_at_call 31; (with_reducible refine (slices_Index_string_string.calls k _ _ l0_0 a1_2 t109 _ ?side1 ?side2 A7.out).mono ?_); (case side1 => repeat (first | exact (Kd.C_below HR0_0.out (by repeat (first | (with_reducible first | exact HB.out | apply below_alloc | apply pw_below_drewN | apply below_drew1 | refine below_set ?_ GE103.out | refine below_set ?_ GE104.out) | exact HB.out))) | (with_reducible refine Kd.C_alloc ?_ _) | (with_reducible refine Kd.C_drewN ?_ _) | (with_reducible refine Kd.C_drew ?_))); (case side2 => exact HC0_0.out); rintro e w' ⟨rfl, ⟨nd, rfl⟩⟩; (try first | exact ⟨rfl, _, World.drewN_drewN _ _ _⟩ | exact ⟨rfl, _, Eq.trans (World.drewN_drewN _ _ _) (congrArg (World.drewN _) (Nat.add_assoc _ _ _))⟩); have p110 : 0 ≤ (t106 : Int) := of_decide_eq_true (by first | (with_reducible assumption) | assumption); have q110 : t106 < (l0_5.length : Int) := of_decide_eq_true (by first | (with_reducible assumption) | assumption); obtain ⟨ad110, A110_0, c110_0, e110, hx110_0, hl110_0, hi110_0⟩ := at_L3 HR0_5.out t106 p110 q110; cases e110; replace hx110_0 := (HB.out.cell (World.block_lt_of_cell? w _ hx110_0)).trans hx110_0; have HR110_0 := Aside0.mk hi110_0; have HC110_0 := Aside0.mk hl110_0; clear hi110_0 hl110_0; replace p110 := eq_true p110; replace q110 := eq_true q110)))
                  go_ret
                  exact ⟨by first | rfl | (simp [errW_none, errW_some] <;> rfl) | (simp [*, errW_none, errW_some] <;> rfl), by repeat (first | (with_reducible first | exact HB.out | apply below_alloc | apply pw_below_drewN | apply below_drew1 | refine below_set ?_ GE103.out | refine below_set ?_ GE104.out) | exact HB.out)⟩
                · rw [if_neg c40] at H
                  have c40b0 : decide (16 ≤ t109) = false := decide_eq_false c40
                  clear c40
                  by_cases c46 : 0 ≤ t108
                  · rw [if_pos c46] at H
                    have c46b0 : decide (0 ≤ t108) = true := decide_eq_true c46
                    clear c46
                    by_cases c47 : t108 < ((rd_L3 l0_5 t106).length : Int)
                    · rw [if_pos c47] at H
                      have c47b0 : decide (t108 < ((rd_L3 l0_5 t106).length : Int)) = true := decide_eq_true c47
                      clear c47
                      by_cases c48 : 0 ≤ t109
                      · rw [if_pos c48] at H
                        have c48b0 := eq_true c48
                        have c48b1 : decide (0 ≤ t109) = true := decide_eq_true c48
                        clear c48
                        obtain ⟨ji49, hji49⟩ : ∃ j_ : Int, (shl .u16 1 t109) = j_ := ⟨_, rfl⟩
                        replace H : (some ((Go.bits .andNot .u16 (rd (rd_L3 l0_5 t106) t108) (ji49)) != (rd (rd_L3 l0_5 t106) t108))) = some r := by first | (rw [hji49] at H; exact H) | (simp only [hji49] at H ⊢; exact H)
                        (try rw [hji49] at A3)
                        (try rw [hji49] at A4)
                        (try rw [hji49] at A5)
                        (try rw [hji49] at A6)
                        (try rw [hji49] at A7)
                        have hji49_ : (IntKind.u16.wrap (1 * 2 ^ min t109.toNat 16)) = ji49 := hji49
                        have hji49z : t109 ≤ 16 → (IntKind.u16.wrap (1 * 2 ^ t109.toNat)) = ji49 := shl_small hji49
                        have hji49u : (IntKind.u16.wrap (2 ^ min t109.toNat 16)) = ji49 := by have h_ := hji49_; rw [Int.one_mul] at h_; exact h_
                        have hji49v : t109 ≤ 16 → (IntKind.u16.wrap (2 ^ t109.toNat)) = ji49 := fun hle_ => by have h_ := hji49z hle_; rw [Int.one_mul] at h_; exact h_
                        obtain rfl := Option.some.inj H
                        go_enter Try.func10, Try.ntmps10
                        go_wp2_with (first | ((with_reducible refine gate_dst (N := 2) rfl ?_); (try (refine gate_guard (by rfl) ?_; dsimp only)); refine box_event ?hg (N := 2) ?hd (cs := #[.slice A0_0 l0_0.length c0_0, .slice A0_1 l0_1.length c0_1, .slice A0_2 l0_2.length c0_2, .slice A0_3 l0_3.length c0_3, .slice A0_4 l0_4.length c0_4, .slice A0_5 l0_5.length c0_5]) (t := 26) ?hr ?_; (case hd => rfl); (case hg => rfl); (case hr => first | (go_simp; done) | (go_simp; rfl)); intro gb103 hg w50 hbox hb; have n0_ := Aside0.mk (below_step (by repeat (first | (with_reducible first | exact HB.out | apply below_alloc | apply pw_below_drewN | apply below_drew1) | exact HB.out)) hb); have n1_ := Aside0.mk (hbox); have n2_ := Aside0.mk ((by rw [hg]; exact (below_size (by repeat (first | (with_reducible first | exact HB.out | apply below_alloc | apply pw_below_drewN | apply below_drew1) | exact HB.out))) : w.heap.size ≤ gb103)); have n3_ := Aside0.mk ((by rw [hg]; exact (below_size (by repeat (first | (with_reducible first | exact HB.out | apply below_alloc | apply pw_below_drewN | apply below_drew1) | exact HB.out))) : w.heap.size ≤ gb103)); clear HB; have HB := n0_; have BK103 := n1_; have GW103 := n2_; have GE103 := n3_; clear n0_ n1_ n2_ n3_; clear hb hbox hg) | ((with_reducible refine gate_dst (N := 3) rfl ?_); (try (refine gate_guard (by rfl) ?_; dsimp only)); refine box_event ?hg (N := 3) ?hd (cs := #[.string a1_0, .string a1_1, .string a1_2]) (t := 28) ?hr ?_; (case hd => rfl); (case hg => rfl); (case hr => first | (go_simp; done) | (go_simp; rfl)); intro gb104 hg w51 hbox hb; have n0_ := Aside0.mk (blk_below (g := gb103) (o := .cells #[.slice A0_0 l0_0.length c0_0, .slice A0_1 l0_1.length c0_1, .slice A0_2 l0_2.length c0_2, .slice A0_3 l0_3.length c0_3, .slice A0_4 l0_4.length c0_4, .slice A0_5 l0_5.length c0_5] 26 (0, 0)) (by (with_reducible repeat (first | refine blk_drewN ?_ _ | refine blk_drew ?_ | refine blk_alloc ?_ _)); exact BK103.out) hb); have n1_ := Aside0.mk (below_step (by repeat (first | (with_reducible first | exact HB.out | apply below_alloc | apply pw_below_drewN | apply below_drew1 | refine below_set ?_ GE103.out) | exact HB.out)) hb); have n2_ := Aside0.mk (hbox); have n3_ := Aside0.mk ((by rw [hg]; exact (below_size (by repeat (first | (with_reducible first | exact HB.out | apply below_alloc | apply pw_below_drewN | apply below_drew1 | refine below_set ?_ GE103.out) | exact HB.out))) : w.heap.size ≤ gb104)); have n4_ := Aside0.mk ((by rw [hg]; exact (below_size (by repeat (first | (with_reducible first | exact HB.out | apply below_alloc | apply pw_below_drewN | apply below_drew1 | refine below_set ?_ GE103.out) | exact HB.out))) : w.heap.size ≤ gb104)); have n5_ := Aside0.mk ((by rw [hg]; exact Nat.ne_of_lt (blk_lt (g := gb103) (o := .cells #[.slice A0_0 l0_0.length c0_0, .slice A0_1 l0_1.length c0_1, .slice A0_2 l0_2.length c0_2, .slice A0_3 l0_3.length c0_3, .slice A0_4 l0_4.length c0_4, .slice A0_5 l0_5.length c0_5] 26 (0, 0)) (by (with_reducible repeat (first | refine blk_drewN ?_ _ | refine blk_drew ?_ | refine blk_alloc ?_ _)); exact BK103.out)) : gb103 ≠ gb104)); have n6_ := Aside0.mk ((by rw [hg]; exact Nat.ne_of_gt (blk_lt (g := gb103) (o := .cells #[.slice A0_0 l0_0.length c0_0, .slice A0_1 l0_1.length c0_1, .slice A0_2 l0_2.length c0_2, .slice A0_3 l0_3.length c0_3, .slice A0_4 l0_4.length c0_4, .slice A0_5 l0_5.length c0_5] 26 (0, 0)) (by (with_reducible repeat (first | refine blk_drewN ?_ _ | refine blk_drew ?_ | refine blk_alloc ?_ _)); exact BK103.out)) : gb104 ≠ gb103)); clear BK103; clear HB; have BK103 := n0_; have HB := n1_; have BK104 := n2_; have GW104 := n3_; have GE104 := n4_; have NB103_104 := n5_; have NB104_103 := n6_; clear n0_ n1_ n2_ n3_ n4_ n5_ n6_; clear hb hbox hg; have hnb52 := NB103_104.out; have hnc52 := NB104_103.out; have hcz53_0 : w51.cell? ⟨gb103, 0, none⟩ = some (.slice A0_0 l0_0.length c0_0) := (blk_cell BK103.out 0).trans rfl; have hcz53_1 : w51.cell? ⟨gb103, 1, none⟩ = some (.slice A0_1 l0_1.length c0_1) := (blk_cell BK103.out 1).trans rfl; have hcz53_2 : w51.cell? ⟨gb103, 2, none⟩ = some (.slice A0_2 l0_2.length c0_2) := (blk_cell BK103.out 2).trans rfl; have hcz53_3 : w51.cell? ⟨gb103, 3, none⟩ = some (.slice A0_3 l0_3.length c0_3) := (blk_cell BK103.out 3).trans rfl; have hcz53_4 : w51.cell? ⟨gb103, 4, none⟩ = some (.slice A0_4 l0_4.length c0_4) := (blk_cell BK103.out 4).trans rfl; have hcz53_5 : w51.cell? ⟨gb103, 5, none⟩ = some (.slice A0_5 l0_5.length c0_5) := (blk_cell BK103.out 5).trans rfl; have hfz53_0 := blk_frozen BK103.out 0; have hfz53_1 := blk_frozen BK103.out 1; have hfz53_2 := blk_frozen BK103.out 2; have hfz53_3 := blk_frozen BK103.out 3; have hfz53_4 := blk_frozen BK103.out 4; have hfz53_5 := blk_frozen BK103.out 5; have hcz54_0 : w51.cell? ⟨gb104, 0, none⟩ = some (.string a1_0) := (blk_cell BK104.out 0).trans rfl; have hcz54_1 : w51.cell? ⟨gb104, 1, none⟩ = some (.string a1_1) := (blk_cell BK104.out 1).trans rfl; have hcz54_2 : w51.cell? ⟨gb104, 2, none⟩ = some (.string a1_2) := (blk_cell BK104.out 2).trans rfl; have hfz54_0 := blk_frozen BK104.out 0; have hfz54_1 := blk_frozen BK104.out 1; have hfz54_2 := blk_frozen BK104.out 2))
                        repeat (go_quiet (first | (go_at_call 31; (with_reducible refine (slices_Index_string_string.calls k _ _ l0_1 a1_0 t105 _ ?side1 ?side2 A3.out).mono ?_); (case side1 => repeat (first | exact (Kd.C_below HR0_1.out HB.out) | (with_reducible refine Kd.C_alloc ?_ _) | (with_reducible refine Kd.C_drewN ?_ _) | (with_reducible refine Kd.C_drew ?_))); (case side2 => exact HC0_1.out); rintro e w' ⟨rfl, ⟨nd, rfl⟩⟩; (try first | exact ⟨rfl, _, World.drewN_drewN _ _ _⟩ | exact ⟨rfl, _, Eq.trans (World.drewN_drewN _ _ _) (congrArg (World.drewN _) (Nat.add_assoc _ _ _))⟩)) | (go_at_call 30; (with_reducible refine (graph_at.calls _ _ l0_3 t105 t106 _ ?side1 ?side2 A4.out).mono ?_); (case side1 => repeat (first | exact (Kd.C_below HR0_3.out (by repeat (first | (with_reducible first | exact HB.out | apply below_alloc | apply pw_below_drewN | apply below_drew1 | refine below_set ?_ GE103.out | refine below_set ?_ GE104.out) | exact HB.out))) | (with_reducible refine Kd.C_alloc ?_ _) | (with_reducible refine Kd.C_drewN ?_ _) | (with_reducible refine Kd.C_drew ?_))); (case side2 => exact HC0_3.out); rintro e w' ⟨rfl, ⟨nd, rfl⟩⟩; (try first | exact ⟨rfl, _, World.drewN_drewN _ _ _⟩ | exact ⟨rfl, _, Eq.trans (World.drewN_drewN _ _ _) (congrArg (World.drewN _) (Nat.add_assoc _ _ _))⟩)) | (go_at_call 31; (with_reducible refine (slices_Index_string_string.calls k _ _ l0_2 a1_1 t107 _ ?side1 ?side2 A5.out).mono ?_); (case side1 => repeat (first | exact (Kd.C_below HR0_2.out (by repeat (first | (with_reducible first | exact HB.out | apply below_alloc | apply pw_below_drewN | apply below_drew1 | refine below_set ?_ GE103.out | refine below_set ?_ GE104.out) | exact HB.out))) | (with_reducible refine Kd.C_alloc ?_ _) | (with_reducible refine Kd.C_drewN ?_ _) | (with_reducible refine Kd.C_drew ?_))); (case side2 => exact HC0_2.out); rintro e w' ⟨rfl, ⟨nd, rfl⟩⟩; (try first | exact ⟨rfl, _, World.drewN_drewN _ _ _⟩ | exact ⟨rfl, _, Eq.trans (World.drewN_drewN _ _ _) (congrArg (World.drewN _) (Nat.add_assoc _ _ _))⟩)) | (go_at_call 30; (with_reducible refine (graph_at.calls _ _ l0_4 t107 t108 _ ?side1 ?side2 A6.out).mono ?_); (case side1 => repeat (first | exact (Kd.C_below HR0_4.out (by repeat (first | (with_reducible first | exact HB.out | apply below_alloc | apply pw_below_drewN | apply below_drew1 | refine below_set ?_ GE103.out | refine below_set ?_ GE104.out) | exact HB.out))) | (with_reducible refine Kd.C_alloc ?_ _) | (with_reducible refine Kd.C_drewN ?_ _) | (with_reducible refine Kd.C_drew ?_))); (case side2 => exact HC0_4.out); rintro e w' ⟨rfl, ⟨nd, rfl⟩⟩; (try first | exact ⟨rfl, _, World.drewN_drewN _ _ _⟩ | exact ⟨rfl, _, Eq.trans (World.drewN_drewN _ _ _) (congrArg (World.drewN _) (Nat.add_assoc _ _ _))⟩)) | (go_at_call 31; (with_reducible refine (slices_Index_string_string.calls k _ _ l0_0 a1_2 t109 _ ?side1 ?side2 A7.out).mono ?_); (case side1 => repeat (first | exact (Kd.C_below HR0_0.out (by repeat (first | (with_reducible first | exact HB.out | apply below_alloc | apply pw_below_drewN | apply below_drew1 | refine below_set ?_ GE103.out | refine below_set ?_ GE104.out) | exact HB.out))) | (with_reducible refine Kd.C_alloc ?_ _) | (with_reducible refine Kd.C_drewN ?_ _) | (with_reducible refine Kd.C_drew ?_))); (case side2 => exact HC0_0.out); rintro e w' ⟨rfl, ⟨nd, rfl⟩⟩; (try first | exact ⟨rfl, _, World.drewN_drewN _ _ _⟩ | exact ⟨rfl, _, Eq.trans (World.drewN_drewN _ _ _) (congrArg (World.drewN _) (Nat.add_assoc _ _ _))⟩); have p110 : 0 ≤ (t106 : Int) := of_decide_eq_true (by first | (with_reducible assumption) | assumption); have q110 : t106 < (l0_5.length : Int) := of_decide_eq_true (by first | (with_reducible assumption) | assumption); obtain ⟨ad110, A110_0, c110_0, e110, hx110_0, hl110_0, hi110_0⟩ := at_L3 HR0_5.out t106 p110 q110; cases e110; replace hx110_0 := (HB.out.cell (World.block_lt_of_cell? w _ hx110_0)).trans hx110_0; have HR110_0 := Aside0.mk hi110_0; have HC110_0 := Aside0.mk hl110_0; clear hi110_0 hl110_0; replace p110 := eq_true p110; replace q110 := eq_true q110; have p111 : 0 ≤ (t106 : Int) := of_decide_eq_true (by first | (with_reducible assumption) | assumption); have q111 : t106 < (l0_5.length : Int) := of_decide_eq_true (by first | (with_reducible assumption) | assumption); obtain ⟨ad111, A111_0, c111_0, e111, hx111_0, hl111_0, hi111_0⟩ := at_L3 HR0_5.out t106 p111 q111; obtain rfl : ad110 = ad111 := (by injection e111); replace hx111_0 := (HB.out.cell (World.block_lt_of_cell? w _ hx111_0)).trans hx111_0; have HR111_0 := Aside0.mk hi111_0; have HC111_0 := Aside0.mk hl111_0; clear hi111_0 hl111_0; replace p111 := eq_true p111; replace q111 := eq_true q111; have ea_ := Option.some.inj (hx110_0.symm.trans hx111_0); injection ea_ with ea_ en_ ec_; subst ea_; subst ec_; clear en_; have p112 : 0 ≤ (t108 : Int) := of_decide_eq_true (by first | (with_reducible assumption) | assumption); have q112 : t108 < ((rd_L3 l0_5 t106).length : Int) := of_decide_eq_true (by first | (with_reducible assumption) | assumption); obtain ⟨ad112, e112, hx112_0⟩ := Kd.at_int HR111_0.out t108 p112 q112; cases e112; replace hx112_0 := (HB.out.cell (World.block_lt_of_cell? w _ hx112_0)).trans hx112_0; replace p112 := eq_true p112; replace q112 := eq_true q112)); try go_wp2_with (first | (go_at_call 31; (with_reducible refine (slices_Index_string_string.calls k _ _ l0_1 a1_0 t105 _ ?side1 ?side2 A3.out).mono ?_); (case side1 => repeat (first | exact (Kd.C_below HR0_1.out HB.out) | (with_reducible refine Kd.C_alloc ?_ _) | (with_reducible refine Kd.C_drewN ?_ _) | (with_reducible refine Kd.C_drew ?_))); (case side2 => exact HC0_1.out); rintro e w' ⟨rfl, ⟨nd, rfl⟩⟩; (try first | exact ⟨rfl, _, World.drewN_drewN _ _ _⟩ | exact ⟨rfl, _, Eq.trans (World.drewN_drewN _ _ _) (congrArg (World.drewN _) (Nat.add_assoc _ _ _))⟩)) | (go_at_call 30; (with_reducible refine (graph_at.calls _ _ l0_3 t105 t106 _ ?side1 ?side2 A4.out).mono ?_); (case side1 => repeat (first | exact (Kd.C_below HR0_3.out (by repeat (first | (with_reducible first | exact HB.out | apply below_alloc | apply pw_below_drewN | apply below_drew1 | refine below_set ?_ GE103.out | refine below_set ?_ GE104.out) | exact HB.out))) | (with_reducible refine Kd.C_alloc ?_ _) | (with_reducible refine Kd.C_drewN ?_ _) | (with_reducible refine Kd.C_drew ?_))); (case side2 => exact HC0_3.out); rintro e w' ⟨rfl, ⟨nd, rfl⟩⟩; (try first | exact ⟨rfl, _, World.drewN_drewN _ _ _⟩ | exact ⟨rfl, _, Eq.trans (World.drewN_drewN _ _ _) (congrArg (World.drewN _) (Nat.add_assoc _ _ _))⟩)) | (go_at_call 31; (with_reducible refine (slices_Index_string_string.calls k _ _ l0_2 a1_1 t107 _ ?side1 ?side2 A5.out).mono ?_); (case side1 => repeat (first | exact (Kd.C_below HR0_2.out (by repeat (first | (with_reducible first | exact HB.out | apply below_alloc | apply pw_below_drewN | apply below_drew1 | refine below_set ?_ GE103.out | refine below_set ?_ GE104.out) | exact HB.out))) | (with_reducible refine Kd.C_alloc ?_ _) | (with_reducible refine Kd.C_drewN ?_ _) | (with_reducible refine Kd.C_drew ?_))); (case side2 => exact HC0_2.out); rintro e w' ⟨rfl, ⟨nd, rfl⟩⟩; (try first | exact ⟨rfl, _, World.drewN_drewN _ _ _⟩ | exact ⟨rfl, _, Eq.trans (World.drewN_drewN _ _ _) (congrArg (World.drewN _) (Nat.add_assoc _ _ _))⟩)) | (go_at_call 30; (with_reducible refine (graph_at.calls _ _ l0_4 t107 t108 _ ?side1 ?side2 A6.out).mono ?_); (case side1 => repeat (first | exact (Kd.C_below HR0_4.out (by repeat (first | (with_reducible first | exact HB.out | apply below_alloc | apply pw_below_drewN | apply below_drew1 | refine below_set ?_ GE103.out | refine below_set ?_ GE104.out) | exact HB.out))) | (with_reducible refine Kd.C_alloc ?_ _) | (with_reducible refine Kd.C_drewN ?_ _) | (with_reducible refine Kd.C_drew ?_))); (case side2 => exact HC0_4.out); rintro e w' ⟨rfl, ⟨nd, rfl⟩⟩; (try first | exact ⟨rfl, _, World.drewN_drewN _ _ _⟩ | exact ⟨rfl, _, Eq.trans (World.drewN_drewN _ _ _) (congrArg (World.drewN _) (Nat.add_assoc _ _ _))⟩)) | (go_at_call 31; (with_reducible refine (slices_Index_string_string.calls k _ _ l0_0 a1_2 t109 _ ?side1 ?side2 A7.out).mono ?_); (case side1 => repeat (first | exact (Kd.C_below HR0_0.out (by repeat (first | (with_reducible first | exact HB.out | apply below_alloc | apply pw_below_drewN | apply below_drew1 | refine below_set ?_ GE103.out | refine below_set ?_ GE104.out) | exact HB.out))) | (with_reducible refine Kd.C_alloc ?_ _) | (with_reducible refine Kd.C_drewN ?_ _) | (with_reducible refine Kd.C_drew ?_))); (case side2 => exact HC0_0.out); rintro e w' ⟨rfl, ⟨nd, rfl⟩⟩; (try first | exact ⟨rfl, _, World.drewN_drewN _ _ _⟩ | exact ⟨rfl, _, Eq.trans (World.drewN_drewN _ _ _) (congrArg (World.drewN _) (Nat.add_assoc _ _ _))⟩); have p110 : 0 ≤ (t106 : Int) := of_decide_eq_true (by first | (with_reducible assumption) | assumption); have q110 : t106 < (l0_5.length : Int) := of_decide_eq_true (by first | (with_reducible assumption) | assumption); obtain ⟨ad110, A110_0, c110_0, e110, hx110_0, hl110_0, hi110_0⟩ := at_L3 HR0_5.out t106 p110 q110; cases e110; replace hx110_0 := (HB.out.cell (World.block_lt_of_cell? w _ hx110_0)).trans hx110_0; have HR110_0 := Aside0.mk hi110_0; have HC110_0 := Aside0.mk hl110_0; clear hi110_0 hl110_0; replace p110 := eq_true p110; replace q110 := eq_true q110; have p111 : 0 ≤ (t106 : Int) := of_decide_eq_true (by first | (with_reducible assumption) | assumption); have q111 : t106 < (l0_5.length : Int) := of_decide_eq_true (by first | (with_reducible assumption) | assumption); obtain ⟨ad111, A111_0, c111_0, e111, hx111_0, hl111_0, hi111_0⟩ := at_L3 HR0_5.out t106 p111 q111; obtain rfl : ad110 = ad111 := (by injection e111); replace hx111_0 := (HB.out.cell (World.block_lt_of_cell? w _ hx111_0)).trans hx111_0; have HR111_0 := Aside0.mk hi111_0; have HC111_0 := Aside0.mk hl111_0; clear hi111_0 hl111_0; replace p111 := eq_true p111; replace q111 := eq_true q111; have ea_ := Option.some.inj (hx110_0.symm.trans hx111_0); injection ea_ with ea_ en_ ec_; subst ea_; subst ec_; clear en_; have p112 : 0 ≤ (t108 : Int) := of_decide_eq_true (by first | (with_reducible assumption) | assumption); have q112 : t108 < ((rd_L3 l0_5 t106).length : Int) := of_decide_eq_true (by first | (with_reducible assumption) | assumption); obtain ⟨ad112, e112, hx112_0⟩ := Kd.at_int HR111_0.out t108 p112 q112; cases e112; replace hx112_0 := (HB.out.cell (World.block_lt_of_cell? w _ hx112_0)).trans hx112_0; replace p112 := eq_true p112; replace q112 := eq_true q112)))
                        go_ret
                        exact ⟨by first | rfl | (simp [errW_none, errW_some] <;> rfl) | (simp only [← hji49]; first | rfl | (simp [errW_none, errW_some] <;> rfl)) | (simp [*, errW_none, errW_some] <;> rfl), by repeat (first | (with_reducible first | exact HB.out | apply below_alloc | apply pw_below_drewN | apply below_drew1 | refine below_set ?_ GE103.out | refine below_set ?_ GE104.out) | exact HB.out)⟩
                      · rw [if_neg c48] at H
                        exact absurd H (by simp)
                    · rw [if_neg c47] at H
                      exact absurd H (by simp)
                  · rw [if_neg c46] at H
                    exact absurd H (by simp)
          · rw [if_neg c27] at H
            exact absurd H (by simp)
        · rw [if_neg c26] at H
          exact absurd H (by simp)

/-! ### gatehouseref11_place: function 32 -/
def gatehouseref11_place.l0 : Nat → List ByteArray → ByteArray → Int → Option (Int)
  | 0, _, _, _ => none
  | k + 1, x0, x1, x5 => if x5 < (x0.length : Int) then (if 0 ≤ x5 then (if (rdOf ByteArray.empty x0 x5).toList = x1.toList then (some x5) else (gatehouseref11_place.l0 k x0 x1 (wrap64 (x5 + 1)))) else (none)) else (some (-1))
def gatehouseref11_place.f (k : Nat) (l0 : List ByteArray) (a1 : ByteArray) : Option (Int) := gatehouseref11_place.l0 k l0 a1 0
theorem gatehouseref11_place.mono_l : ∀ k, (∀ y0 y1 y2, LeO (gatehouseref11_place.l0 k y0 y1 y2) (gatehouseref11_place.l0 (k + 1) y0 y1 y2))
  | 0 => fun _ _ _ r h => by simp [gatehouseref11_place.l0] at h
  | k + 1 => by
    have ih0 := gatehouseref11_place.mono_l k
    · intro y0 y1 y2
      unfold gatehouseref11_place.l0
      repeat' first
      | (with_reducible exact ih0 _ _ _)
      | (with_reducible exact LeO.refl _)
      | (with_reducible exact LeO.none _)
      | (with_reducible refine LeO.ite ?_ ?_)
      | (with_reducible refine LeO.bind ?_ (fun _ => ?_))
      | exact ih0 _ _ _
      | exact LeO.none _
      | refine LeO.ite ?_ ?_
      | refine LeO.bind ?_ (fun _ => ?_)
theorem gatehouseref11_place.mono : ∀ a0 a1 k, LeO (gatehouseref11_place.f k a0 a1) (gatehouseref11_place.f (k + 1) a0 a1) := by
  intro a0 a1 k
  have ih0 := gatehouseref11_place.mono_l k
  unfold gatehouseref11_place.f
  repeat' first
      | (with_reducible exact ih0 _ _ _)
      | (with_reducible exact LeO.refl _)
      | (with_reducible exact LeO.none _)
      | (with_reducible refine LeO.ite ?_ ?_)
      | (with_reducible refine LeO.bind ?_ (fun _ => ?_))
      | exact ih0 _ _ _
      | exact LeO.none _
      | refine LeO.ite ?_ ?_
      | refine LeO.bind ?_ (fun _ => ?_)
set_option maxHeartbeats 8000000 in
set_option maxRecDepth 100000 in
theorem gatehouseref11_place.calls (k : Nat) (A0 : Option Addr) (c0 : Nat) (l0 : List ByteArray) (a1 : ByteArray) (r : Int) (w : World) (hr0 : Kd.C Kd.string w A0 l0.length l0) (hc0 : l0.length ≤ c0) (h : gatehouseref11_place.f k l0 a1 = some r) :
    Calls Try.prog 32 #[.slice A0 l0.length c0, .string a1] w fun e w' => e = .returned (.int .i64 r) ∧ Drawn0 w w' := by
  have HR0 := Aside0.mk hr0
  have HC0 := Aside0.mk hc0
  clear hr0 hc0
  have H : (gatehouseref11_place.l0 k l0 a1 0) = some r := h
  clear h
  have H' := Aside0.mk H
  clear H
  go_enter Try.func32, Try.ntmps32
  go_wp2
  go_loopg [5] k (fun kq v5 w' => ∃ (x5_1 : Int), v5 = .int .i64 x5_1 ∧ Aside0 (gatehouseref11_place.l0 kq l0 a1 x5_1 = some r) ∧ Aside0 (kq ≤ k) ∧ Drawn0 w w')
  case atStart => exact ⟨(0), (by first | rfl | (simp; done) | (simp [*]; done)), H', ⟨Nat.le_refl _⟩, by repeat (first | exact Drawn0.refl _ | apply Drawn0.step)⟩
  case round =>
    clear H'
    try clear p2
    obtain ⟨x5_1, rfl, HA, HK1, ⟨m1, rfl⟩⟩ := hrel
    cases gk with
    | zero => exact absurd HA.out (by simp [gatehouseref11_place.l0])
    | succ k1 =>
      have H := HA.out
      clear HA
      simp only [gatehouseref11_place.l0] at H
      by_cases c3 : x5_1 < (l0.length : Int)
      · rw [if_pos c3] at H
        have c3b0 : decide (x5_1 < (l0.length : Int)) = true := decide_eq_true c3
        clear c3
        by_cases c4 : 0 ≤ x5_1
        · rw [if_pos c4] at H
          have c4b0 : decide (0 ≤ x5_1) = true := decide_eq_true c4
          clear c4
          by_cases c5 : (rdOf ByteArray.empty l0 x5_1).toList = a1.toList
          · rw [if_pos c5] at H
            have c5b0 : ((rdOf ByteArray.empty l0 x5_1).toList == a1.toList) = true := beq_iff_eq.mpr c5
            have c5b1 : ((rdOf ByteArray.empty l0 x5_1).toList != a1.toList) = false := bne_eq_false_iff_eq.mpr c5
            clear c5
            obtain rfl := Option.some.inj H
            have p113 : 0 ≤ (x5_1 : Int) := of_decide_eq_true (by first | (with_reducible assumption) | assumption)
            have q113 : x5_1 < (l0.length : Int) := of_decide_eq_true (by first | (with_reducible assumption) | assumption)
            obtain ⟨ad113, e113, hx113_0⟩ := Kd.at_string HR0.out x5_1 p113 q113
            cases e113
            replace p113 := eq_true p113
            replace q113 := eq_true q113
            go_wp2
            go_ret
            exact ⟨by first | rfl | (simp; done) | (simp [*]; done), by repeat (first | exact Drawn0.refl _ | apply Drawn0.step)⟩
          · rw [if_neg c5] at H
            have c5b0 : ((rdOf ByteArray.empty l0 x5_1).toList == a1.toList) = false := beq_eq_false_iff_ne.mpr c5
            have c5b1 : ((rdOf ByteArray.empty l0 x5_1).toList != a1.toList) = true := bne_iff_ne.mpr c5
            have H' := Aside0.mk H
            clear H
            have p113 : 0 ≤ (x5_1 : Int) := of_decide_eq_true (by first | (with_reducible assumption) | assumption)
            have q113 : x5_1 < (l0.length : Int) := of_decide_eq_true (by first | (with_reducible assumption) | assumption)
            obtain ⟨ad113, e113, hx113_0⟩ := Kd.at_string HR0.out x5_1 p113 q113
            cases e113
            replace p113 := eq_true p113
            replace q113 := eq_true q113
            go_wp2
            go_roundg k1
            case measure => have := HK1.out; omega
            case rel => exact ⟨(wrap64 (x5_1 + 1)), (by first | rfl | (simp; done) | (simp [*]; done)), H', ⟨by have := HK1.out; omega⟩, by repeat (first | exact Drawn0.refl _ | apply Drawn0.step)⟩
        · rw [if_neg c4] at H
          exact absurd H (by simp)
      · rw [if_neg c3] at H
        have c3b0 : decide (x5_1 < (l0.length : Int)) = false := decide_eq_false c3
        clear c3
        obtain rfl := Option.some.inj H
        go_wp2
        go_ret
        exact ⟨by first | rfl | (simp; done) | (simp [*]; done), by repeat (first | exact Drawn0.refl _ | apply Drawn0.step)⟩

end Go.Proofs.Ythaiodklfoegiaa.PGraphDecide

/- The plain law of GraphDecide: what the program's Decide and the document's answer compute over lists is the same, for every graph and triple. -/
namespace Go.Proofs.Ythaiodklfoegiaa.DecPure
open Go.RowKit Go.Proofs.Ythaiodklfoegiaa.PGraphDecide Go.Proofs.YthaiodklfoegiaaW.PrintWords Go.Proofs.YthaiodklfoegiaaW.PrintMore

def pos : List ByteArray → ByteArray → Nat → Int
  | [], _, _ => -1
  | x :: r, s, n => if x.toList = s.toList then n else pos r s (n + 1)

theorem pos_range : ∀ (l : List ByteArray) (s : ByteArray) (n : Nat), pos l s n = -1 ∨ ((n : Int) ≤ pos l s n ∧ pos l s n < n + l.length)
  | [], _, _ => .inl rfl
  | x :: r, s, n => by
    simp only [pos]
    split
    · right; simp; omega
    · rcases pos_range r s (n + 1) with h | h
      · exact .inl h
      · right; simp at h ⊢; omega

theorem wrap_small {i : Int} (h0 : -9223372036854775808 ≤ i) (h1 : i ≤ 9223372036854775807) : wrap64 i = i := by
  unfold wrap64; omega

theorem index_l0 (l : List ByteArray) (s : ByteArray) (hl : l.length ≤ 9223372036854775807) (d : Nat) : ∀ (k n : Nat), n + d = l.length → d < k →
    slices_Index_string_string.l0 k l s l.length n = some (pos (l.drop n) s n) := by
  induction d with
  | zero =>
    intro k n hn hk
    obtain ⟨k, rfl⟩ : ∃ m, k = m + 1 := ⟨k - 1, by omega⟩
    rw [List.drop_eq_nil_of_le (by omega)]
    simp only [slices_Index_string_string.l0]
    rw [if_neg (by omega)]; rfl
  | succ d ih =>
    intro k n hn hk
    obtain ⟨k, rfl⟩ : ∃ m, k = m + 1 := ⟨k - 1, by omega⟩
    have hlt : n < l.length := by omega
    rw [List.drop_eq_getElem_cons hlt]
    simp only [slices_Index_string_string.l0, pos]
    rw [if_pos (by omega), if_pos (by omega), if_pos (by omega)]
    have hg : rdOf ByteArray.empty l (n : Int) = l[n] := by simp [rdOf, hlt]
    rw [hg]
    by_cases h : s.toList = l[n].toList
    · rw [if_pos h, if_pos h.symm]
    · rw [if_neg h, if_neg (fun e => h e.symm), wrap_small (by omega) (by omega)]
      exact ih k (n + 1) (by omega) (by omega)

theorem place_l0 (l : List ByteArray) (s : ByteArray) (hl : l.length ≤ 9223372036854775807) (d : Nat) : ∀ (k n : Nat), n + d = l.length → d < k →
    gatehouseref11_place.l0 k l s n = some (pos (l.drop n) s n) := by
  induction d with
  | zero =>
    intro k n hn hk
    obtain ⟨k, rfl⟩ : ∃ m, k = m + 1 := ⟨k - 1, by omega⟩
    rw [List.drop_eq_nil_of_le (by omega)]
    simp only [gatehouseref11_place.l0]
    rw [if_neg (by omega)]; rfl
  | succ d ih =>
    intro k n hn hk
    obtain ⟨k, rfl⟩ : ∃ m, k = m + 1 := ⟨k - 1, by omega⟩
    have hlt : n < l.length := by omega
    rw [List.drop_eq_getElem_cons hlt]
    simp only [gatehouseref11_place.l0, pos]
    rw [if_pos (by omega), if_pos (by omega)]
    have hg : rdOf ByteArray.empty l (n : Int) = l[n] := by simp [rdOf, hlt]
    rw [hg]
    by_cases h : l[n].toList = s.toList
    · rw [if_pos h, if_pos h]
    · rw [if_neg h, if_neg h, wrap_small (by omega) (by omega)]
      exact ih k (n + 1) (by omega) (by omega)

theorem index_f (k : Nat) (l : List ByteArray) (s : ByteArray) (hl : l.length ≤ 9223372036854775807) (hk : l.length < k) : slices_Index_string_string.f k l s = some (pos l s 0) :=
  index_l0 l s hl l.length k 0 (by omega) hk
theorem place_f (k : Nat) (l : List ByteArray) (s : ByteArray) (hl : l.length ≤ 9223372036854775807) (hk : l.length < k) : gatehouseref11_place.f k l s = some (pos l s 0) :=
  place_l0 l s hl l.length k 0 (by omega) hk

theorem bv_says (a : BitVec 16) (k : Nat) (hk : k < 16) : (a &&& ~~~(BitVec.twoPow 16 k) = a) ↔ a.getLsbD k = false := by
  constructor
  · intro h
    have := congrArg (fun b => BitVec.getLsbD b k) h
    simp [hk] at this
    exact this
  · intro h
    ext i hi
    simp [BitVec.getElem_twoPow]
    intro hs
    by_cases e : i = k
    · subst e; simp [BitVec.getLsbD_eq_getElem hi] at h; rw [h] at hs; cases hs
    · exact e

theorem one_bit (k : Nat) (hk : k ≤ 15) : BitVec.ofInt 16 (shl .u16 1 (k : Int)) = BitVec.twoPow 16 k := by
  have : ∀ k : Fin 16, BitVec.ofInt 16 (shl .u16 1 (k.val : Int)) = BitVec.twoPow 16 k.val := by decide
  exact this ⟨k, by omega⟩

theorem bit_says (m : Nat) (hm : m ≤ 65535) (k : Nat) (hk : k ≤ 15) : ((Go.bits .andNot .u16 (m : Int) (shl .u16 1 (k : Int))) != (m : Int)) = (((m : Int) / 2 ^ k) % 2 == 1) := by
  have e1 : Go.bits .andNot .u16 (m : Int) (shl .u16 1 (k : Int)) = (((BitVec.ofNat 16 m) &&& ~~~(BitVec.twoPow 16 k)).toNat : Int) := by
    show IntKind.wrap .u16 (((BitVec.ofInt 16 (m : Int)) &&& ~~~(BitVec.ofInt 16 (shl .u16 1 (k : Int)))).toNat : Int) = _
    rw [one_bit k hk, BitVec.ofInt_natCast]
    have h := ((BitVec.ofNat 16 m) &&& ~~~(BitVec.twoPow 16 k)).isLt
    generalize ((BitVec.ofNat 16 m) &&& ~~~(BitVec.twoPow 16 k)).toNat = z at *
    simp only [IntKind.wrap, IntKind.bits, IntKind.signed]
    simp
    omega
  rw [e1]
  have hmm : (BitVec.ofNat 16 m).toNat = m := by simp; omega
  have hbit : (BitVec.ofNat 16 m).getLsbD k = m.testBit k := by rw [BitVec.getLsbD, hmm]
  have ht : ((m : Int) / 2 ^ k) % 2 == 1 ↔ m.testBit k = true := by
    rw [Nat.testBit_eq_decide_div_mod_eq]
    have : ((m : Int) / 2 ^ k) = ((m / 2 ^ k : Nat) : Int) := by simp
    rw [this]
    simp
    omega
  rw [Bool.eq_iff_iff, ht, ← hbit]
  have := bv_says (BitVec.ofNat 16 m) k (by omega)
  have hh : (((BitVec.ofNat 16 m) &&& ~~~(BitVec.twoPow 16 k)).toNat : Int) = m ↔ (BitVec.ofNat 16 m) &&& ~~~(BitVec.twoPow 16 k) = BitVec.ofNat 16 m := by
    constructor
    · intro h
      apply BitVec.eq_of_toNat_eq
      rw [hmm]; omega
    · intro h; rw [h, hmm]
  rw [bne_iff_ne, ne_eq, hh, this]
  simp

theorem at_f (l : List Int) (i : Int) (h : i = -1 ∨ 0 ≤ i) : graph_at.f l i = some (if 0 ≤ i ∧ i < l.length then wrap64 (rd l i - 1) else -1) := by
  unfold graph_at.f
  rcases h with rfl | h
  · rw [if_pos (by omega), if_neg (by omega)]
  · rw [if_neg (by omega)]
    by_cases hl : i < l.length
    · rw [if_neg (by omega), if_pos h, if_pos hl, if_pos ⟨h, hl⟩]
    · rw [if_pos (by omega), if_neg (by omega)]

/-- What both come to. -/
def says (of on : List Int) (masks : List (List Int)) (i j k : Int) : Bool :=
  if 0 ≤ i ∧ i < of.length ∧ 0 ≤ j ∧ j < on.length ∧ 0 ≤ k ∧ k ≤ 15 ∧ 1 ≤ rd of i ∧ rd of i ≤ masks.length ∧ 1 ≤ rd on j ∧ rd on j ≤ (rd_L3 masks (rd of i - 1)).length then
    ((rd (rd_L3 masks (rd of i - 1)) (rd on j - 1)) / 2 ^ k.toNat) % 2 == 1
  else false

theorem rd_u16 {l : List Int} (h : ∀ x ∈ l, 0 ≤ x ∧ x ≤ 65535) (i : Int) : 0 ≤ rd l i ∧ rd l i ≤ 65535 := by
  unfold rd
  rw [List.getD_eq_getElem?_getD]
  cases e : l[i.toNat]? with
  | none => simp
  | some x => simpa using h x (List.mem_of_getElem? e)
theorem rd_L3_u16 {l : List (List Int)} (h : ∀ r ∈ l, ∀ x ∈ r, 0 ≤ x ∧ x ≤ 65535) (i : Int) : ∀ x ∈ rd_L3 l i, 0 ≤ x ∧ x ≤ 65535 := by
  unfold rd_L3
  rw [List.getD_eq_getElem?_getD]
  cases e : l[i.toNat]? with
  | none => simp
  | some r => simpa using h r (List.mem_of_getElem? e)
theorem rd_i64 {l : List Int} (h : ∀ x ∈ l, -9223372036854775808 ≤ x ∧ x ≤ 9223372036854775807) (i : Int) : -9223372036854775808 ≤ rd l i ∧ rd l i ≤ 9223372036854775807 := by
  unfold rd
  rw [List.getD_eq_getElem?_getD]
  cases e : l[i.toNat]? with
  | none => simp
  | some x => simpa using h x (List.mem_of_getElem? e)

section
variable (k : Nat) (la ls lo : List ByteArray) (of on : List Int) (ms : List (List Int)) (s o a : ByteArray)
theorem program (ha : la.length ≤ 9223372036854775807) (hs : ls.length ≤ 9223372036854775807) (ho : lo.length ≤ 9223372036854775807) (hm : ms.length ≤ 9223372036854775807)
    (hr : ∀ i, (rd_L3 ms i).length ≤ 9223372036854775807)
    (hof : ∀ x ∈ of, -9223372036854775808 ≤ x ∧ x ≤ 9223372036854775807) (hon : ∀ x ∈ on, -9223372036854775808 ≤ x ∧ x ≤ 9223372036854775807)
    (hms : ∀ r ∈ ms, ∀ x ∈ r, 0 ≤ x ∧ x ≤ 65535) (hk : la.length < k ∧ ls.length < k ∧ lo.length < k) :
    graph_Decide.f k la ls lo of on ms s o a = some (says of on ms (pos ls s 0) (pos lo o 0) (pos la a 0)) := by
  unfold graph_Decide.f
  rw [index_f k ls s hs (by omega), index_f k lo o ho (by omega), index_f k la a ha (by omega)]
  simp only [Option.bind_some]
  have pi := pos_range ls s 0
  have pj := pos_range lo o 0
  have pk := pos_range la a 0
  generalize pos ls s 0 = i at *
  generalize pos lo o 0 = j at *
  generalize pos la a 0 = q at *
  rw [at_f of i (by omega), at_f on j (by omega)]
  simp only [Option.bind_some]
  have hi := rd_i64 hof i
  have hj := rd_i64 hon j
  unfold says
  by_cases c1 : 0 ≤ i ∧ i < of.length
  case neg => rw [if_neg c1, if_pos (by omega), if_neg (by omega)]
  rw [if_pos c1]
  by_cases c2 : rd of i = -9223372036854775808
  · have : wrap64 (rd of i - 1) = 9223372036854775807 := by rw [c2]; unfold wrap64; omega
    rw [this, if_neg (by omega), if_pos (by omega), if_neg (by omega)]
  rw [wrap_small (i := rd of i - 1) (by omega) (by omega)]
  by_cases c3 : rd of i < 1
  · rw [if_pos (by omega), if_neg (by omega)]
  rw [if_neg (by omega)]
  by_cases c4 : rd of i ≤ ms.length
  case neg => rw [if_pos (by omega), if_neg (by omega)]
  rw [if_neg (by omega)]
  have hrl := hr (rd of i - 1)
  by_cases c5 : 0 ≤ j ∧ j < on.length
  case neg => rw [if_neg c5, if_pos (by omega), if_neg (by omega)]
  rw [if_pos c5]
  by_cases c6 : rd on j = -9223372036854775808
  · have : wrap64 (rd on j - 1) = 9223372036854775807 := by rw [c6]; unfold wrap64; omega
    rw [this, if_neg (by omega), if_pos (by omega), if_pos (by omega), if_pos (by omega), if_neg (by omega)]
  rw [wrap_small (i := rd on j - 1) (by omega) (by omega)]
  by_cases c7 : rd on j < 1
  · rw [if_pos (by omega), if_neg (by omega)]
  rw [if_neg (by omega), if_pos (by omega), if_pos (by omega)]
  by_cases c8 : rd on j ≤ (rd_L3 ms (rd of i - 1)).length
  case neg => rw [if_pos (by omega), if_neg (by omega)]
  rw [if_neg (by omega)]
  by_cases c9 : 0 ≤ q
  case neg => rw [if_pos (by omega), if_neg (by omega)]
  rw [if_neg (by omega)]
  by_cases c10 : q ≤ 15
  case neg => rw [if_pos (by omega), if_neg (by omega)]
  rw [if_neg (by omega), if_pos (by omega), if_pos (by omega), if_pos (by omega), if_pos (by omega)]
  have hb := rd_u16 (rd_L3_u16 hms (rd of i - 1)) (rd on j - 1)
  obtain ⟨m, hm'⟩ := Int.eq_ofNat_of_zero_le hb.1
  obtain ⟨q', rfl⟩ := Int.eq_ofNat_of_zero_le c9
  rw [hm'] at hb ⊢
  rw [bit_says m (by omega) q' (by omega)]
  simp

end
end Go.Proofs.Ythaiodklfoegiaa.DecPure

/- Classes of lines, and the graph of a matrix: plain. -/
namespace Go.Proofs.Ythaiodklfoegiaa.CPure
section
variable {α : Type} [DecidableEq α]
def one1 (L : List α) (x : α) : List α := if x ∈ L then L else L ++ [x]
/-- What there is, once each, as it comes. -/
def uniq (ls : List α) : List α := ls.foldl one1 []
theorem uniq_snoc (ls : List α) (x : α) : uniq (ls ++ [x]) = one1 (uniq ls) x := by simp [uniq]
theorem mem_one1 {L : List α} {x y : α} : y ∈ one1 L x ↔ y ∈ L ∨ y = x := by
  unfold one1
  split
  · rename_i h
    constructor
    · exact .inl
    · rintro (h' | rfl)
      · exact h'
      · exact h
  · rw [List.mem_append, List.mem_singleton]
omit [DecidableEq α] in
theorem snoc_ind {P : List α → Prop} (h0 : P []) (h1 : ∀ l x, P l → P (l ++ [x])) (l : List α) : P l := by
  have : ∀ n, ∀ l : List α, l.length = n → P l := by
    intro n
    induction n with
    | zero => intro l hl; rw [List.length_eq_zero_iff.1 hl]; exact h0
    | succ n ih =>
      intro l hl
      have hne : l ≠ [] := by intro e; subst e; simp at hl
      rw [← List.dropLast_concat_getLast hne]
      exact h1 _ _ (ih _ (by simp; omega))
  exact this _ l rfl
theorem mem_uniq {ls : List α} {y : α} : y ∈ uniq ls ↔ y ∈ ls := by
  refine snoc_ind (P := fun ls => y ∈ uniq ls ↔ y ∈ ls) (by simp [uniq]) (fun l x ih => ?_) ls
  rw [uniq_snoc, mem_one1, ih, List.mem_append, List.mem_singleton]
theorem uniq_length (ls : List α) : (uniq ls).length ≤ ls.length := by
  refine snoc_ind (P := fun ls => (uniq ls).length ≤ ls.length) (by simp [uniq]) (fun l x ih => ?_) ls
  rw [uniq_snoc, one1]
  split
  · simp; omega
  · simpa using ih
/-- The number of a thing's class. -/
def clsN (ls : List α) (x : α) : Nat := (uniq ls).idxOf x
def num (ls : List α) (x : α) : Int := ((clsN ls x + 1 : Nat) : Int)
def numsOf (ls : List α) : List Int := ls.map (num ls)
def firstsN (ls : List α) : List Nat := (uniq ls).map (fun x => ls.idxOf x)
def firstsOf (ls : List α) : List Int := (firstsN ls).map (fun (n : Nat) => (n : Int))
theorem num_old {ls : List α} {x y : α} (h : y ∈ ls) : num (ls ++ [x]) y = num ls y := by
  unfold num clsN
  rw [uniq_snoc, one1]
  split
  · rfl
  · rw [List.idxOf_append, if_pos (mem_uniq.2 h)]
theorem num_new {ls : List α} {x : α} (h : x ∉ ls) : num (ls ++ [x]) x = (((uniq ls).length + 1 : Nat) : Int) := by
  unfold num clsN
  have h' : x ∉ uniq ls := fun e => h (mem_uniq.1 e)
  rw [uniq_snoc, one1, if_neg h', List.idxOf_append, if_neg h']
  simp
theorem numsOf_snoc (ls : List α) (x : α) : numsOf (ls ++ [x]) = numsOf ls ++ [num (ls ++ [x]) x] := by
  unfold numsOf
  rw [List.map_append, List.map_singleton]
  congr 1
  exact List.map_congr_left fun y hy => num_old hy
theorem firstsN_snoc (ls : List α) (x : α) : firstsN (ls ++ [x]) = firstsN ls ++ if x ∈ ls then [] else [ls.length] := by
  unfold firstsN
  rw [uniq_snoc, one1]
  have key : ∀ y ∈ uniq ls, (ls ++ [x]).idxOf y = ls.idxOf y := fun y hy => by rw [List.idxOf_append, if_pos (mem_uniq.1 hy)]
  by_cases h : x ∈ ls
  · rw [if_pos (mem_uniq.2 h), if_pos h, List.append_nil]
    exact List.map_congr_left key
  · rw [if_neg (fun e => h (mem_uniq.1 e)), if_neg h, List.map_append, List.map_singleton]
    congr 1
    · exact List.map_congr_left key
    · rw [List.idxOf_append, if_neg h]; simp
theorem firstsOf_snoc (ls : List α) (x : α) : firstsOf (ls ++ [x]) = firstsOf ls ++ if x ∈ ls then [] else [(ls.length : Int)] := by
  unfold firstsOf
  rw [firstsN_snoc, List.map_append]
  congr 1
  split <;> rfl
theorem firstsOf_old {ls : List α} {x : α} (h : x ∈ ls) : firstsOf (ls ++ [x]) = firstsOf ls := by rw [firstsOf_snoc, if_pos h, List.append_nil]
theorem firstsOf_new {ls : List α} {x : α} (h : x ∉ ls) : firstsOf (ls ++ [x]) = firstsOf ls ++ [(ls.length : Int)] := by rw [firstsOf_snoc, if_neg h]
theorem firstsOf_length (ls : List α) : (firstsOf ls).length = (uniq ls).length := by simp [firstsOf, firstsN]
theorem firstsN_lt {ls : List α} {n : Nat} (h : n ∈ firstsN ls) : n < ls.length := by
  obtain ⟨x, hx, rfl⟩ := List.mem_map.1 h
  exact List.idxOf_lt_length_of_mem (mem_uniq.1 hx)
/-- The first of a class is as the others. -/
theorem first_of (ls : List α) (i : Nat) (hi : i < ls.length) : ∃ i', ∃ h : i' < ls.length, (firstsN ls)[clsN ls ls[i]]? = some i' ∧ ls[i'] = ls[i] := by
  have hm : ls[i] ∈ uniq ls := mem_uniq.2 (List.getElem_mem hi)
  have hu := List.idxOf_lt_length_of_mem hm
  refine ⟨ls.idxOf ls[i], List.idxOf_lt_length_of_mem (List.getElem_mem hi), ?_, List.getElem_idxOf _⟩
  unfold firstsN clsN
  rw [List.getElem?_map, List.getElem?_eq_getElem hu, Option.map_some, List.getElem_idxOf]
/-- Two are of one class just if they are equal. -/
theorem num_eq {ls : List α} {x y : α} (hx : x ∈ ls) (hy : y ∈ ls) : num ls x = num ls y ↔ x = y := by
  constructor
  · intro h
    unfold num clsN at h
    have h1 := List.idxOf_lt_length_of_mem (mem_uniq.2 hx)
    have h2 := List.idxOf_lt_length_of_mem (mem_uniq.2 hy)
    have e : (uniq ls).idxOf x = (uniq ls).idxOf y := by omega
    have e1 : (uniq ls)[(uniq ls).idxOf x] = x := List.getElem_idxOf _
    have e2 : (uniq ls)[(uniq ls).idxOf y] = y := List.getElem_idxOf _
    rw [← e1, ← e2]
    simp only [e]
  · rintro rfl; rfl
theorem num_pos (ls : List α) (x : α) : 1 ≤ num ls x := by unfold num clsN; omega
theorem num_le {ls : List α} {x : α} (h : x ∈ ls) : num ls x ≤ (uniq ls).length := by
  have := List.idxOf_lt_length_of_mem (mem_uniq.2 h)
  unfold num clsN; omega
end

/-- A matrix' lines: n of 64, the first m of them told. -/
def fill (m : Nat) (M : Nat → Nat → Int) (i j : Nat) : Int := if j < m then M i j else 0
def lines (n m : Nat) (M : Nat → Nat → Int) : List (List Int) := (List.range n).map fun a => (List.range 64).map (fill m M a)
theorem lines_length (n m : Nat) (M : Nat → Nat → Int) : (lines n m M).length = n := by simp [lines]
theorem lines_get {n m : Nat} {M : Nat → Nat → Int} {i : Nat} (h : i < (lines n m M).length) : (lines n m M)[i] = (List.range 64).map (fill m M i) := by simp [lines]
theorem lines_eq {n m : Nat} {M : Nat → Nat → Int} (hm : m ≤ 64) {i k : Nat} (hi : i < (lines n m M).length) (hk : k < (lines n m M).length) : (lines n m M)[i] = (lines n m M)[k] ↔ ∀ j, j < m → M i j = M k j := by
  rw [lines_get, lines_get]
  constructor
  · intro h j hj
    have := congrArg (fun l => l[j]?) h
    have hj64 : j < 64 := by omega
    simpa [fill, hj, hj64] using this
  · intro h
    refine List.map_congr_left fun j _ => ?_
    unfold fill
    split
    · rename_i hj; exact h j hj
    · rfl
/-- The graph of a matrix. -/
def ofM (n m : Nat) (M : Nat → Nat → Int) : List Int := numsOf (lines n m M)
def masksM (n m : Nat) (M : Nat → Nat → Int) : List (List Int) := (firstsN (lines n m M)).map fun i => (firstsN (lines m n (fun j i => M i j))).map fun j => M i j
theorem ofM_length (n m : Nat) (M : Nat → Nat → Int) : (ofM n m M).length = n := by simp [ofM, numsOf, lines_length]
theorem ofM_get {n m : Nat} {M : Nat → Nat → Int} {i : Nat} (h : i < n) : ∃ h1 : i < (lines n m M).length, (ofM n m M)[i]? = some (num (lines n m M) (lines n m M)[i]) := by
  have h1 : i < (lines n m M).length := by rw [lines_length]; exact h
  refine ⟨h1, ?_⟩
  unfold ofM numsOf
  rw [List.getElem?_map, List.getElem?_eq_getElem h1, Option.map_some]
theorem masks_at {n m : Nat} {M : Nat → Nat → Int} (hn : n ≤ 64) (hm : m ≤ 64) {i j : Nat} (hi : i < n) (h1 : i < (lines n m M).length) (h2 : j < (lines m n (fun j i => M i j)).length) :
    ∃ row, (masksM n m M)[clsN (lines n m M) (lines n m M)[i]]? = some row ∧ row[clsN (lines m n (fun j i => M i j)) (lines m n (fun j i => M i j))[j]]? = some (M i j) := by
  obtain ⟨i', hi', e1, e2⟩ := first_of (lines n m M) i h1
  obtain ⟨j', hj', e3, e4⟩ := first_of (lines m n (fun j i => M i j)) j h2
  unfold masksM
  refine ⟨_, by rw [List.getElem?_map, e1, Option.map_some], ?_⟩
  rw [List.getElem?_map, e3, Option.map_some]
  have f1 := (lines_eq hm hi' h1).1 e2
  have f2 := (lines_eq hn hj' h2).1 e4
  rw [lines_length] at hi' hj'
  rw [f1 j' hj', f2 i hi]

/-- A mask out of its bits. -/
def maskN (f : Nat → Bool) : Nat → Nat
  | 0 => 0
  | n + 1 => maskN f n ||| (if f n then 2 ^ n else 0)
theorem maskN_bit (f : Nat → Bool) : ∀ (n k : Nat), (maskN f n).testBit k = (decide (k < n) && f k)
  | 0, k => by simp [maskN]
  | n + 1, k => by
    rw [maskN, Nat.testBit_or, maskN_bit f n k]
    by_cases h : f n
    · rw [if_pos h, Nat.testBit_two_pow]
      by_cases e : n = k
      · subst e; simp [h]
      · have e1 : decide (k < n + 1) = decide (k < n) := by simp; omega
        simp [e, e1]
    · rw [if_neg h]
      by_cases e : n = k
      · subst e; simp [h]
      · have e1 : decide (k < n + 1) = decide (k < n) := by simp; omega
        simp [e1]
theorem maskN_lt (f : Nat → Bool) : ∀ n, maskN f n < 2 ^ n
  | 0 => by simp [maskN]
  | n + 1 => by
    rw [maskN]
    have := maskN_lt f n
    refine Nat.or_lt_two_pow (by omega) ?_
    split
    · exact Nat.pow_lt_pow_right (by omega) (by omega)
    · exact Nat.two_pow_pos _
theorem maskN_says (f : Nat → Bool) (n k : Nat) : (((maskN f n : Nat) : Int) / 2 ^ k % 2 == 1) = (decide (k < n) && f k) := by
  rw [← maskN_bit, Nat.testBit_eq_decide_div_mod_eq, Bool.eq_iff_iff, beq_iff_eq, decide_eq_true_iff]
  norm_cast
theorem maskN_congr {f g : Nat → Bool} {n : Nat} (h : ∀ k < n, f k = g k) : maskN f n = maskN g n := by
  refine Nat.eq_of_testBit_eq fun k => ?_
  rw [maskN_bit, maskN_bit]
  by_cases e : k < n
  · rw [h k e]
  · simp [e]
end Go.Proofs.Ythaiodklfoegiaa.CPure

namespace Go.Proofs.Ythaiodklfoegiaa.PG
open Go.Proofs.YthaiodklfoegiaaF
attribute [local go_sem high] run_feq run_fne run_flt_lt run_flt_le run_flt_gt run_flt_ge
open Go.RowKit Go.Proofs.YthaiodklfoegiaaW.PrintWords Go.Proofs.YthaiodklfoegiaaW.PrintLast Go.Proofs.YthaiodklfoegiaaW.PrintMore
attribute [local go_sem] max2_int min2_int max_two min_two max_three min_three max_four min_four   -- for this text's walks alone
set_option linter.unusedVariables false
set_option linter.unusedSimpArgs false

/-! ### bits_Mask: function 70 -/
def bits_Mask.l0 : Nat → Int → List Int → Int → Int → Option (Int)
  | 0, _, _, _, _ => none
  | k + 1, x3, x6, x7, x8 => if x8 < x7 then (if 0 ≤ x8 then (if x8 < (x6.length : Int) then (if (rd x6 x8) ≥ 0 then (if (rd x6 x8) < 16 then (if 0 ≤ (rd x6 x8) then (bits_Mask.l0 k (Go.bits .or .u16 x3 (shl .u16 1 (rd x6 x8))) x6 x7 (wrap64 (x8 + 1))) else (none)) else (bits_Mask.l0 k x3 x6 x7 (wrap64 (x8 + 1)))) else (bits_Mask.l0 k x3 x6 x7 (wrap64 (x8 + 1)))) else (none)) else (none)) else (some x3)
def bits_Mask.f (k : Nat) (l0 : List Int) : Option (Int) := bits_Mask.l0 k 0 l0 (l0.length : Int) 0
theorem bits_Mask.mono_l : ∀ k, (∀ y0 y1 y2 y3, LeO (bits_Mask.l0 k y0 y1 y2 y3) (bits_Mask.l0 (k + 1) y0 y1 y2 y3))
  | 0 => fun _ _ _ _ r h => by simp [bits_Mask.l0] at h
  | k + 1 => by
    have ih0 := bits_Mask.mono_l k
    · intro y0 y1 y2 y3
      unfold bits_Mask.l0
      repeat' first
      | (with_reducible exact ih0 _ _ _ _)
      | (with_reducible exact LeO.refl _)
      | (with_reducible exact LeO.none _)
      | (with_reducible refine LeO.ite ?_ ?_)
      | (with_reducible refine LeO.bind ?_ (fun _ => ?_))
      | exact ih0 _ _ _ _
      | exact LeO.none _
      | refine LeO.ite ?_ ?_
      | refine LeO.bind ?_ (fun _ => ?_)
theorem bits_Mask.mono : ∀ a0 k, LeO (bits_Mask.f k a0) (bits_Mask.f (k + 1) a0) := by
  intro a0 k
  have ih0 := bits_Mask.mono_l k
  unfold bits_Mask.f
  repeat' first
      | (with_reducible exact ih0 _ _ _ _)
      | (with_reducible exact LeO.refl _)
      | (with_reducible exact LeO.none _)
      | (with_reducible refine LeO.ite ?_ ?_)
      | (with_reducible refine LeO.bind ?_ (fun _ => ?_))
      | exact ih0 _ _ _ _
      | exact LeO.none _
      | refine LeO.ite ?_ ?_
      | refine LeO.bind ?_ (fun _ => ?_)
set_option maxHeartbeats 8000000 in
set_option maxRecDepth 100000 in
theorem bits_Mask.calls (k : Nat) (A0 : Option Addr) (c0 : Nat) (l0 : List Int) (r : Int) (w : World) (hr0 : Kd.C (Kd.int .i64) w A0 l0.length l0) (hc0 : l0.length ≤ c0) (h : bits_Mask.f k l0 = some r) :
    Calls Try.prog 70 #[.slice A0 l0.length c0] w fun e w' => e = .returned (.int .u16 r) ∧ Drawn0 w w' := by
  have HR0 := Aside0.mk hr0
  have HC0 := Aside0.mk hc0
  clear hr0 hc0
  have H : (bits_Mask.l0 k 0 l0 (l0.length : Int) 0) = some r := h
  clear h
  have H' := Aside0.mk H
  clear H
  go_enter Try.func70, Try.ntmps70
  go_wp2
  go_loopg [3, 8] k (fun kq v3 v8 w' => ∃ (x3_1 : Int) (x8_1 : Int), v3 = .int .u16 x3_1 ∧ v8 = .int .i64 x8_1 ∧ Aside0 (bits_Mask.l0 kq x3_1 l0 (l0.length : Int) x8_1 = some r) ∧ Aside0 (kq ≤ k) ∧ Drawn0 w w')
  case atStart => exact ⟨(0), (0), (by first | rfl | (simp; done) | (simp [*]; done)), (by first | rfl | (simp; done) | (simp [*]; done)), H', ⟨Nat.le_refl _⟩, by repeat (first | exact Drawn0.refl _ | apply Drawn0.step)⟩
  case round =>
    clear H'
    obtain ⟨x3_1, x8_1, rfl, rfl, HA, HK1, ⟨m1, rfl⟩⟩ := hrel
    cases gk with
    | zero => exact absurd HA.out (by simp [bits_Mask.l0])
    | succ k1 =>
      have H := HA.out
      clear HA
      simp only [bits_Mask.l0] at H
      by_cases c2 : x8_1 < (l0.length : Int)
      · rw [if_pos c2] at H
        have c2b0 : decide (x8_1 < (l0.length : Int)) = true := decide_eq_true c2
        clear c2
        by_cases c3 : 0 ≤ x8_1
        · rw [if_pos c3] at H
          have c3b0 : decide (0 ≤ x8_1) = true := decide_eq_true c3
          clear c3
          by_cases c4 : x8_1 < (l0.length : Int)
          · rw [if_pos c4] at H
            have c4b0 : decide (x8_1 < (l0.length : Int)) = true := decide_eq_true c4
            clear c4
            by_cases c5 : (rd l0 x8_1) ≥ 0
            · rw [if_pos c5] at H
              have c5b0 : decide (0 ≤ (rd l0 x8_1)) = true := decide_eq_true c5
              clear c5
              by_cases c6 : (rd l0 x8_1) < 16
              · rw [if_pos c6] at H
                have c6b0 : decide ((rd l0 x8_1) < 16) = true := decide_eq_true c6
                clear c6
                by_cases c7 : 0 ≤ (rd l0 x8_1)
                · rw [if_pos c7] at H
                  have c7b0 := eq_true c7
                  have c7b1 : decide (0 ≤ (rd l0 x8_1)) = true := decide_eq_true c7
                  clear c7
                  obtain ⟨ji8, hji8⟩ : ∃ j_ : Int, (shl .u16 1 (rd l0 x8_1)) = j_ := ⟨_, rfl⟩
                  replace H : (bits_Mask.l0 k1 (Go.bits .or .u16 x3_1 (ji8)) l0 (l0.length : Int) (wrap64 (x8_1 + 1))) = some r := by first | (rw [hji8] at H; exact H) | (simp only [hji8] at H ⊢; exact H)
                  have hji8_ : (IntKind.u16.wrap (1 * 2 ^ min (rd l0 x8_1).toNat 16)) = ji8 := hji8
                  have hji8z : (rd l0 x8_1) ≤ 16 → (IntKind.u16.wrap (1 * 2 ^ (rd l0 x8_1).toNat)) = ji8 := shl_small hji8
                  have hji8u : (IntKind.u16.wrap (2 ^ min (rd l0 x8_1).toNat 16)) = ji8 := by have h_ := hji8_; rw [Int.one_mul] at h_; exact h_
                  have hji8v : (rd l0 x8_1) ≤ 16 → (IntKind.u16.wrap (2 ^ (rd l0 x8_1).toNat)) = ji8 := fun hle_ => by have h_ := hji8z hle_; rw [Int.one_mul] at h_; exact h_
                  have H' := Aside0.mk H
                  clear H
                  have p259 : 0 ≤ (x8_1 : Int) := of_decide_eq_true (by first | (with_reducible assumption) | assumption)
                  have q259 : x8_1 < (l0.length : Int) := of_decide_eq_true (by first | (with_reducible assumption) | assumption)
                  obtain ⟨ad259, e259, hx259_0⟩ := Kd.at_int HR0.out x8_1 p259 q259
                  cases e259
                  replace p259 := eq_true p259
                  replace q259 := eq_true q259
                  go_wp2
                  go_roundg k1
                  case measure => have := HK1.out; omega
                  case rel => exact ⟨(Go.bits .or .u16 x3_1 (ji8)), (wrap64 (x8_1 + 1)), (by first | rfl | (simp; done) | (simp only [← hji8] <;> (first | rfl | simp)) | (simp [*]; done)), (by first | rfl | (simp; done) | (simp [*]; done)), H', ⟨by have := HK1.out; omega⟩, by repeat (first | exact Drawn0.refl _ | apply Drawn0.step)⟩
                · rw [if_neg c7] at H
                  exact absurd H (by simp)
              · rw [if_neg c6] at H
                have c6b0 : decide ((rd l0 x8_1) < 16) = false := decide_eq_false c6
                clear c6
                have H' := Aside0.mk H
                clear H
                have p259 : 0 ≤ (x8_1 : Int) := of_decide_eq_true (by first | (with_reducible assumption) | assumption)
                have q259 : x8_1 < (l0.length : Int) := of_decide_eq_true (by first | (with_reducible assumption) | assumption)
                obtain ⟨ad259, e259, hx259_0⟩ := Kd.at_int HR0.out x8_1 p259 q259
                cases e259
                replace p259 := eq_true p259
                replace q259 := eq_true q259
                go_wp2
                go_roundg k1
                case measure => have := HK1.out; omega
                case rel => exact ⟨(x3_1), (wrap64 (x8_1 + 1)), (by first | rfl | (simp; done) | (simp [*]; done)), (by first | rfl | (simp; done) | (simp [*]; done)), H', ⟨by have := HK1.out; omega⟩, by repeat (first | exact Drawn0.refl _ | apply Drawn0.step)⟩
            · rw [if_neg c5] at H
              have c5b0 : decide (0 ≤ (rd l0 x8_1)) = false := decide_eq_false c5
              clear c5
              have H' := Aside0.mk H
              clear H
              have p259 : 0 ≤ (x8_1 : Int) := of_decide_eq_true (by first | (with_reducible assumption) | assumption)
              have q259 : x8_1 < (l0.length : Int) := of_decide_eq_true (by first | (with_reducible assumption) | assumption)
              obtain ⟨ad259, e259, hx259_0⟩ := Kd.at_int HR0.out x8_1 p259 q259
              cases e259
              replace p259 := eq_true p259
              replace q259 := eq_true q259
              go_wp2
              go_roundg k1
              case measure => have := HK1.out; omega
              case rel => exact ⟨(x3_1), (wrap64 (x8_1 + 1)), (by first | rfl | (simp; done) | (simp [*]; done)), (by first | rfl | (simp; done) | (simp [*]; done)), H', ⟨by have := HK1.out; omega⟩, by repeat (first | exact Drawn0.refl _ | apply Drawn0.step)⟩
          · rw [if_neg c4] at H
            exact absurd H (by simp)
        · rw [if_neg c3] at H
          exact absurd H (by simp)
      · rw [if_neg c2] at H
        have c2b0 : decide (x8_1 < (l0.length : Int)) = false := decide_eq_false c2
        clear c2
        obtain rfl := Option.some.inj H
        go_wp2
        go_ret
        exact ⟨by first | rfl | (simp; done) | (simp [*]; done), by repeat (first | exact Drawn0.refl _ | apply Drawn0.step)⟩

end Go.Proofs.Ythaiodklfoegiaa.PG

/- bits.Mask: a mask out of a list of places; or. -/
namespace Go.Proofs.Ythaiodklfoegiaa.CBits
open Go.RowKit Go.Proofs.YthaiodklfoegiaaW.PrintWords Go.Proofs.YthaiodklfoegiaaW.PrintLast Go.Proofs.YthaiodklfoegiaaW.PrintMore Go.Proofs.Ythaiodklfoegiaa.CPure
open Go.Proofs.Ythaiodklfoegiaa Go.Proofs.Ythaiodklfoegiaa.PG

theorem or_both (m n : Nat) (hm : m < 65536) (hn : n < 65536) : Go.bits .or .u16 (m : Int) (n : Int) = ((m ||| n : Nat) : Int) := by
  show IntKind.wrap .u16 (((BitVec.ofInt 16 (m : Int)) ||| (BitVec.ofInt 16 (n : Int))).toNat : Int) = _
  rw [BitVec.ofInt_natCast, BitVec.ofInt_natCast, BitVec.toNat_or, BitVec.toNat_ofNat, BitVec.toNat_ofNat, Nat.mod_eq_of_lt (by omega), Nat.mod_eq_of_lt (by omega)]
  have h := Nat.or_lt_two_pow (n := 16) hm hn
  generalize m ||| n = z at *
  simp only [IntKind.wrap, IntKind.bits, IntKind.signed]
  simp
  omega
theorem shl_pow (k : Nat) (hk : k ≤ 15) : shl .u16 1 (k : Int) = ((2 ^ k : Nat) : Int) := by
  have : ∀ k : Fin 16, shl .u16 1 (k.val : Int) = ((2 ^ k.val : Nat) : Int) := by decide
  exact this ⟨k, by omega⟩
theorem or_shl (m k : Nat) (hm : m < 65536) (hk : k ≤ 15) : Go.bits .or .u16 (m : Int) (shl .u16 1 (k : Int)) = ((m ||| 2 ^ k : Nat) : Int) := by
  rw [shl_pow k hk]
  exact or_both m _ hm (by calc 2 ^ k ≤ 2 ^ 15 := Nat.pow_le_pow_right (by omega) hk
                            _ < 65536 := by decide)

def orStep (m : Nat) (x : Int) : Nat := if 0 ≤ x ∧ x < 16 then m ||| 2 ^ x.toNat else m
def orBits (l : List Int) : Nat := l.foldl orStep 0
theorem orBits_snoc (l : List Int) (x : Int) : orBits (l ++ [x]) = orStep (orBits l) x := by simp [orBits]
theorem orStep_lt {m : Nat} (hm : m < 65536) (x : Int) : orStep m x < 65536 := by
  unfold orStep
  split
  · rename_i h
    refine Nat.or_lt_two_pow (n := 16) hm ?_
    exact Nat.pow_lt_pow_right (by omega) (by omega)
  · exact hm
theorem orBits_lt (l : List Int) : orBits l < 65536 := by
  refine snoc_ind (P := fun l => orBits l < 65536) (by simp [orBits]) (fun l x ih => ?_) l
  rw [orBits_snoc]; exact orStep_lt ih x
theorem orStep_bit (m : Nat) (x : Int) (k : Nat) : (orStep m x).testBit k = (m.testBit k || decide (k < 16 ∧ (k : Int) = x)) := by
  unfold orStep
  by_cases h : 0 ≤ x ∧ x < 16
  · rw [if_pos h, Nat.testBit_or, Nat.testBit_two_pow]
    congr 1
    rw [decide_eq_decide]
    omega
  · rw [if_neg h]
    have : decide (k < 16 ∧ (k : Int) = x) = false := by rw [decide_eq_false_iff_not]; omega
    rw [this, Bool.or_false]
theorem orBits_bit (l : List Int) (k : Nat) : (orBits l).testBit k = decide (k < 16 ∧ (k : Int) ∈ l) := by
  refine snoc_ind (P := fun l => (orBits l).testBit k = decide (k < 16 ∧ (k : Int) ∈ l)) (by simp [orBits]) (fun l x ih => ?_) l
  rw [orBits_snoc, orStep_bit, ih, Bool.eq_iff_iff]
  simp only [Bool.or_eq_true, decide_eq_true_eq, List.mem_append, List.mem_singleton]
  constructor
  · rintro (⟨h1, h2⟩ | ⟨h1, h2⟩)
    · exact ⟨h1, .inl h2⟩
    · exact ⟨h1, .inr h2⟩
  · rintro ⟨h1, h2 | h2⟩
    · exact .inl ⟨h1, h2⟩
    · exact .inr ⟨h1, h2⟩
theorem mask_ev (l : List Int) (hl : l.length ≤ 9223372036854775807) : ∀ (d n : Nat), n + d = l.length → Ev (fun k => bits_Mask.l0 k (orBits (l.take n) : Nat) l l.length n) ((orBits l : Nat) : Int)
  | 0, n, h => by
    rw [List.take_of_length_le (by omega)]
    refine Ev.step (f := fun _ => some _) (fun k => ?_) (Ev.now _)
    simp only [bits_Mask.l0]
    rw [if_neg (by omega)]
  | d + 1, n, h => by
    have hlt : n < l.length := by omega
    have htk : l.take (n + 1) = l.take n ++ [l[n]] := List.take_succ_eq_append_getElem hlt
    have hnx : orBits (l.take (n + 1)) = orStep (orBits (l.take n)) l[n] := by rw [htk, orBits_snoc]
    have hb := orBits_lt (l.take n)
    refine Ev.step (f := fun k => bits_Mask.l0 k (orBits (l.take (n + 1)) : Nat) l l.length ((n + 1 : Nat) : Int)) (fun k => ?_) (mask_ev l hl d (n + 1) (by omega))
    simp only [bits_Mask.l0]
    rw [if_pos (by omega), if_pos (by omega), if_pos (by omega), VPure.rd_get l n hlt, VPure.w64n hlt (by omega), hnx]
    unfold orStep
    by_cases h0 : 0 ≤ l[n]
    · by_cases h1 : l[n] < 16
      · rw [if_pos (by omega), if_pos h1, if_pos h0, if_pos ⟨h0, h1⟩]
        obtain ⟨q, hq⟩ := Int.eq_ofNat_of_zero_le h0
        rw [hq] at h1 ⊢
        rw [or_shl _ q hb (by omega)]
        simp
      · rw [if_pos (by omega), if_neg h1, if_neg (fun e => h1 e.2)]
    · rw [if_neg (by omega), if_neg (fun e => h0 e.1)]
theorem mask_go (A : Option Addr) (c : Nat) (l : List Int) (w : World) (hC : Kd.C (Kd.int .i64) w A l.length l) (hc : l.length ≤ c) :
    Calls Try.prog 70 #[.slice A l.length c] w fun e w' => e = .returned (.int .u16 ((orBits l : Nat) : Int)) ∧ Drawn0 w w' := by
  obtain ⟨k, hk⟩ := (mask_ev l hC.2.1 l.length 0 (by omega)).rounds
  exact bits_Mask.calls k A c l _ w hC hc hk
end Go.Proofs.Ythaiodklfoegiaa.CBits

/- Rows of lines of one's own: n lines of 64 masks in one block. -/
namespace Go.Proofs.Ythaiodklfoegiaa.GBlk
open Go.RowKit Go.Proofs.YthaiodklfoegiaaW.PrintWords Go.Proofs.YthaiodklfoegiaaW.PrintLast Go.Proofs.Ythaiodklfoegiaa.BMap Go.Proofs.Ythaiodklfoegiaa.BRow Go.Proofs.Ythaiodklfoegiaa.GDiffer Go.Maps
open Go.Proofs.Ythaiodklfoegiaa

/-- Block g is n lines; F a b: mask b of line a. -/
def Blk (w : World) (g n : Nat) (F : Nat → Nat → Int) : Prop := w.rowIs g 65 (n * 64) (fun k => .int .u16 (F (k / 64) (k % 64)))
theorem div_of {i j : Nat} (hj : j < 64) : (i * 64 + j) / 64 = i := by omega
theorem mod_of {i j : Nat} (hj : j < 64) : (i * 64 + j) % 64 = j := by omega
namespace Blk
variable {w w1 : World} {g n : Nat} {F F' : Nat → Nat → Int}
theorem lt (h : Blk w g n F) : g < w.heap.size := World.rowIs.lt h
theorem below (h : Blk w g n F) (hb : Below w.heap.size w w1) : Blk w1 g n F := World.rowIs.of_block h (hb.block _ h.lt)
theorem drew (h : Blk w g n F) : Blk w.drew g n F := World.rowIs.drew h
theorem far (h : Blk w g n F) {a : Addr} (ha : g ≠ a.block) (v : Value) : Blk (w.setCell a v) g n F := World.rowIs.setOther h ha v
theorem cell (h : Blk w g n F) {i j : Nat} (hi : i < n) (hj : j < 64) : w.cell? ⟨g, i * 64 + j, none⟩ = some (.int .u16 (F i j)) := by
  have := World.rowIs.cell h (i := i * 64 + j) (by omega)
  rwa [div_of hj, mod_of hj] at this
theorem frozen (h : Blk w g n F) (i : Nat) : w.frozen? ⟨g, i, none⟩ = false := World.rowIs.frozen h i
theorem congr (h : Blk w g n F) (e : ∀ a b, a < n → b < 64 → F a b = F' a b) : Blk w g n F' :=
  World.rowIs.congr h fun k hk => by rw [e (k / 64) (k % 64) (by omega) (by omega)]
theorem set (h : Blk w g n F) {i j : Nat} (hj : j < 64) (x : Int) : Blk (w.setCell ⟨g, i * 64 + j, none⟩ (.int .u16 x)) g n (fun a b => if a = i ∧ b = j then x else F a b) :=
  World.rowIs.congr (World.rowIs.set h (i * 64 + j) (.int .u16 x)) fun k _ => by
    have : k = i * 64 + j ↔ (k / 64 = i ∧ k % 64 = j) := by omega
    show (if k = i * 64 + j then Value.int .u16 x else .int .u16 (F (k / 64) (k % 64))) = Value.int .u16 (if k / 64 = i ∧ k % 64 = j then x else F (k / 64) (k % 64))
    by_cases e : k = i * 64 + j
    · rw [if_pos e, if_pos (this.1 e)]
    · rw [if_neg e, if_neg (fun hh => e (this.2 hh))]
end Blk
theorem Blk.made (w : World) (n : Nat) (z : Array Value) (hz : z = Array.replicate 64 (.int .u16 0)) : Blk (w.alloc (.cells (madeCells z (n * 64)) 65)) w.heap.size n (fun _ _ => 0) := by
  subst hz
  have := World.rowIs_alloc w (madeCells (Array.replicate 64 (.int .u16 0)) (n * 64)) 65 (fun _ => .int .u16 0) (fun i hi => by
    rw [size_madeCells] at hi
    have : i % 64 < 64 := by omega
    simp [madeCells, hi, this])
  rw [size_madeCells] at this
  exact this
/-- The lines as data. -/
def linesOf (n : Nat) (F : Nat → Nat → Int) : List (List Int) := (List.range n).map fun a => (List.range 64).map (F a)
theorem linesOf_length (n : Nat) (F : Nat → Nat → Int) : (linesOf n F).length = n := by simp [linesOf]
theorem Blk.C {w : World} {g n : Nat} {F : Nat → Nat → Int} (h : Blk w g n F) (hn : n ≤ 9223372036854775807) : kLine.C w (some ⟨g, 0, none⟩) n (linesOf n F) := by
  refine ⟨linesOf_length n F, hn, fun _ => ⟨_, rfl, fun a p hp => ?_⟩⟩
  have ha : a < n := by have := (List.getElem?_eq_some_iff.1 hp).1; rwa [linesOf_length] at this
  have hp' : p = (List.range 64).map (F a) := by
    simp [linesOf, ha] at hp
    exact hp.symm
  subst hp'
  refine ⟨nums .u16 ((List.range 64).map (F a)), by simp [nums]; rfl, Kd.K_of_M (base := 0) (ok := fun _ => True) _ (Kd.arr_of_cells (by simp)), fun j u hu => ?_⟩
  have hj : j < 64 := by have := (List.getElem?_eq_some_iff.1 hu).1; simpa [nums] using this
  have hu' : u = .int .u16 (F a j) := by
    simp [nums, hj] at hu
    exact hu.symm
  subst hu'
  have := h.cell ha hj
  have e : ((⟨g, 0, none⟩ : Addr).add (a * 64 + j)) = ⟨g, a * 64 + j, none⟩ := by rw [Addr.add_mid, Nat.zero_add]
  show w.cell? ((⟨g, 0, none⟩ : Addr).add (a * 64 + j)) = _
  rw [e]
  exact this
theorem linesOf_ok {n : Nat} {F : Nat → Nat → Int} (hF : ∀ a b, a < n → b < 64 → (Lit.int .u16 (F a b)).wf = true) : ∀ l ∈ linesOf n F, lineOk l := by
  intro l hl
  obtain ⟨a, ha, rfl⟩ := List.mem_map.1 hl
  refine ⟨by simp, fun x hx => ?_⟩
  obtain ⟨b, hb, rfl⟩ := List.mem_map.1 hx
  exact hF a b (by simpa using ha) (by simpa using hb)
/-- Make a row of lines. -/
theorem info65 : ∃ i : TypeInfo, Try.prog.info? 65 = some i ∧ i.zero = some (.agg (Array.replicate 64 (.int .u16 0))) ∧ i.size = 64 ∧ i.bytes = 128 := by
  have h : (Try.prog.info? 65).map (fun i => (i.zero, i.size, i.bytes)) = some (some (.agg (Array.replicate 64 (.int .u16 0))), 64, 128) := by kernel_rfl
  obtain ⟨i, hi, hz⟩ := Option.map_eq_some_iff.1 h
  simp only [Prod.mk.injEq] at hz
  exact ⟨i, hi, hz.1, hz.2.1, hz.2.2⟩
abbrev made (n : Nat) : Obj := .cells (madeCells (Array.replicate 64 (.int .u16 0)) (n * 64)) 65
theorem make_lines (n : Nat) (hn : n ≤ 64) (w : World) : (Instr.makeSlice 63 (.int .i64 (n : Int)) (.int .i64 (n : Int))).run Try.prog w = .ok (.slice (some ⟨w.heap.size, 0, none⟩) n n) (w.alloc (made n)) := by
  obtain ⟨i, h1, h2, h3, h4⟩ := info65
  have := run_make (P := Try.prog) w 63 65 i _ Try.underlying63 h1 h2 .i64 .i64 (n : Int) n (by omega) (by omega) (by rw [h4]; omega) (by omega)
  rw [h3] at this
  simpa [Value.cells] using this
end Go.Proofs.Ythaiodklfoegiaa.GBlk

/- graph.classes, walked. -/
namespace Go.Proofs.Ythaiodklfoegiaa.CClasses
open Go.RowKit Go.Proofs.YthaiodklfoegiaaW.PrintWords Go.Proofs.YthaiodklfoegiaaW.PrintLast Go.Proofs.YthaiodklfoegiaaW.PrintMore Go.Proofs.Ythaiodklfoegiaa.BMap Go.Proofs.Ythaiodklfoegiaa.BRow Go.Proofs.Ythaiodklfoegiaa.GDiffer Go.Proofs.Ythaiodklfoegiaa.GBlk Go.Proofs.Ythaiodklfoegiaa.CPure Go.Proofs.Ythaiodklfoegiaa.MLines Go.Proofs.Ythaiodklfoegiaa.MSide Go.Proofs.Ythaiodklfoegiaa.MPol Go.Maps
open Go.Proofs.Ythaiodklfoegiaa Go.Proofs.Ythaiodklfoegiaa.PG

/-- A map of lines and two rows of numbers of one's own. -/
structure Cl (w wr : World) (v4 v5 : Value) (L4 L5 : List Int) (f : List Int → Option Int) (n : Nat) : Prop where
  map : MapL wr w.heap.size f n
  r4 : Kd.R (Kd.int .i64) 3 wr w.heap.size (fun b => b ≠ w.heap.size) v4 L4
  r5 : Kd.R (Kd.int .i64) 3 wr w.heap.size (fun b => b ≠ w.heap.size) v5 L5
  apart : ∀ b, v4.ownBlock = some b → v5.ownBlock ≠ some b
  below : Below w.heap.size w wr
namespace Cl
variable {w wr w1 : World} {v4 v5 v' : Value} {L4 L5 : List Int} {f : List Int → Option Int} {n : Nat}
theorem move (h : Cl w wr v4 v5 L4 L5 f n) (hb : Below wr.heap.size wr w1) : Cl w w1 v4 v5 L4 L5 f n :=
  ⟨h.map.below hb, Kd.R_below h.r4 hb, Kd.R_below h.r5 hb, h.apart, below_then h.below h.below.size hb⟩
theorem okR {e base : Nat} {W : World} {ok : Nat → Prop} {v : Value} {xs : List Int} {ok' : Nat → Prop} (h : Kd.R (Kd.int .i64) e W base ok v xs) (h' : ∀ k, v.ownBlock = some k → ok' k) : Kd.R (Kd.int .i64) e W base ok' v xs := ⟨h', h.2⟩
theorem ltR {e base : Nat} {W : World} {ok : Nat → Prop} {v : Value} {xs : List Int} (h : Kd.R (Kd.int .i64) e W base ok v xs) (k : Nat) (hk : v.ownBlock = some k) : k < W.heap.size := (Kd.R_bound h).1 k hk |>.2.2.1
theorem app5 {L : List Int} (h : Cl w wr v4 v5 L4 L5 f n) (hr : Kd.R (Kd.int .i64) 3 w1 w.heap.size (fun b => b ≠ w.heap.size) v' L) (hb : Below w.heap.size w w1) (hg : wr.grownBy w1 v5.ownBlock) (hat : v'.ownBlock = v5.ownBlock ∨ ∃ b, v'.ownBlock = some b ∧ wr.heap.size ≤ b) : Cl w w1 v4 v' L4 L f n where
  map := h.map.grown hg (fun e => h.r5.1 _ e.symm rfl)
  r4 := Kd.R_mono (Kd.R_grown (okR (ok' := fun b => b ≠ w.heap.size ∧ v5.ownBlock ≠ some b) h.r4 (fun k hk => ⟨h.r4.1 k hk, h.apart k hk⟩)) hg (fun k hk => hk.2.symm)) (fun k hk => hk.1)
  r5 := hr
  apart := fun b hb => by
    rcases hat with e | ⟨g, e, hge⟩
    · rw [e]; exact h.apart b hb
    · rw [e]; intro k; have := ltR h.r4 b hb; have := Option.some.inj k; omega
  below := hb
theorem app4 {L : List Int} (h : Cl w wr v4 v5 L4 L5 f n) (hr : Kd.R (Kd.int .i64) 3 w1 w.heap.size (fun b => b ≠ w.heap.size) v' L) (hb : Below w.heap.size w w1) (hg : wr.grownBy w1 v4.ownBlock) (hat : v'.ownBlock = v4.ownBlock ∨ ∃ b, v'.ownBlock = some b ∧ wr.heap.size ≤ b) : Cl w w1 v' v5 L L5 f n where
  map := h.map.grown hg (fun e => h.r4.1 _ e.symm rfl)
  r5 := Kd.R_mono (Kd.R_grown (okR (ok' := fun b => b ≠ w.heap.size ∧ v4.ownBlock ≠ some b) h.r5 (fun k hk => ⟨h.r5.1 k hk, fun e => h.apart k e hk⟩)) hg (fun k hk => hk.2.symm)) (fun k hk => hk.1)
  r4 := hr
  apart := fun b hb => by
    rcases hat with e | ⟨g, e, hge⟩
    · rw [e] at hb; exact h.apart b hb
    · rw [e] at hb; intro k; have := ltR h.r5 b k; have := Option.some.inj hb; omega
  below := hb
theorem put {f' : List Int → Option Int} {n' : Nat} (h : Cl w wr v4 v5 L4 L5 f n) (hM : MapL w1 w.heap.size f' n') (hg : wr.grownBy w1 (some w.heap.size)) : Cl w w1 v4 v5 L4 L5 f' n' where
  map := hM
  r4 := Kd.R_grown h.r4 hg (fun k hk e => hk (Option.some.inj e))
  r5 := Kd.R_grown h.r5 hg (fun k hk e => hk (Option.some.inj e))
  apart := h.apart
  below := h.below.grown hg h.below.size (fun k hk => by cases hk; exact Nat.le_refl _)
end Cl

theorem map_ne {κ β : Type} {kenc : κ → Value} {venc : β → Value} {ok : κ → Prop} {w : World} {b n : Nat} {f : κ → Option β} (h : MapF kenc venc ok w b f n) {g t : Nat} {cs : Array Value} (hS : Stays w g cs t) : g ≠ b := by
  rintro rfl
  obtain ⟨es, cl, l, h2, _⟩ := h.out
  have h1 : w.heap[g]? = some (.cells cs t (0, 0)) := hS
  rw [h1] at h2
  cases h2
theorem zero65' : ∃ cur : Array Value, cur.size = 64 ∧ ∀ w : World, (zeroValue 65).run Try.prog w = .ok (.agg cur) w := ⟨Array.replicate 64 (.int .u16 0), by simp, fun w => by kernel_rfl⟩
theorem i65 : (Try.prog.info? 65).map (·.size) = some 64 := by kernel_rfl
theorem look_line {w : World} {b : Nat} {f : List Int → Option Int} {n : Nat} (hM : MapL w b f n) {l : List Int} (hl : lineOk l) (v : Array Value) (hv : v = (nums .u16 l).toArray) : (Instr.lookup 102 (.map (some b)) (.agg v) false).run Try.prog w = .ok (.int .i64 ((f l).getD 0)) w := by
  subst hv
  have hq := hM.lookup line_key Try.underlying102 (zero3 w) hl false
  have e : ((f l).map (Value.int IntKind.i64)).getD (.int .i64 0) = .int .i64 ((f l).getD 0) := by cases f l <;> rfl
  simp only [Bool.false_eq_true, if_false, e] at hq
  exact hq

set_option maxHeartbeats 2000000 in
set_option maxRecDepth 100000 in
theorem classes_calls (A : Option Addr) (c : Nat) (ls : List (List Int)) (w : World) (hC : kLine.C w A ls.length ls) (hok : ∀ l ∈ ls, lineOk l) (hl : ls.length ≤ 64) :
    Calls Try.prog 49 #[.slice A ls.length c] w fun e w' => ∃ v4 v5, e = .returned (.tuple #[v4, v5]) ∧ Kd.R (Kd.int .i64) 3 w' w.heap.size (fun _ => True) v4 (numsOf ls) ∧ Kd.R (Kd.int .i64) 3 w' w.heap.size (fun _ => True) v5 (firstsOf ls) ∧ Below w.heap.size w w' := by
  have HC := Aside0.mk hC
  have HOK := Aside0.mk hok
  have HLL := Aside0.mk hl
  have hmax : ls.length ≤ 9223372036854775807 := hC.2.1
  clear hC hok hl
  have hmm := @run_makeMap Try.prog
  go_enter Try.func49, Try.ntmps49
  go_wp2
  clear hmm
  obtain ⟨cur, hcur, hz⟩ := zero65'
  have HCUR := Aside0.mk hcur
  clear hcur
  go_loopw [4, 5, 12] (fun u4 u5 u12 wr => ∃ (k : Nat) (f : List Int → Option Int) (n : Nat), k ≤ ls.length ∧ u12 = .int .i64 k ∧ Aside0 (Cl w wr u4 u5 (numsOf (ls.take k)) (firstsOf (ls.take k)) f n) ∧ Aside0 (∀ l, (l ∈ ls.take k → f l = some (num (ls.take k) l)) ∧ (l ∉ ls.take k → f l = none))) (fun _ _ u12 _ => ls.length - (intOf u12).toNat)
  case atStart => exact ⟨0, _, _, Nat.zero_le _, rfl, ⟨⟨MapF.made w, Kd.R_nil _ _ _ _ _, Kd.R_nil _ _ _ _ _, fun b h => by simp [Value.ownBlock] at h, (Below.refl _ _).alloc (Nat.le_refl _) _⟩⟩, ⟨fun l => by simp⟩⟩
  case round =>
    obtain ⟨k, f, n, hk, rfl, HR, HF⟩ := hrel
    by_cases hlt : k < ls.length
    · obtain ⟨ad, cs, e0, hl, hK, hcell⟩ := Kd.C_get HC.out ([] : List Int) (k : Int) (by omega) (by omega)
      cases e0
      have hlo := HOK.out (ls[k]) (List.getElem_mem hlt)
      have hget : ls.getD (k : Int).toNat [] = ls[k] := by simp [hlt]
      rw [hget] at hK
      obtain ⟨_, rfl⟩ := Kd.arr_cells hK
      have htk : ls.take (k + 1) = ls.take k ++ [ls[k]] := List.take_succ_eq_append_getElem hlt
      obtain ⟨x, hxx⟩ : ∃ x, x = ls[k] := ⟨_, rfl⟩
      rw [← hxx] at hcell hlo htk
      have hcw : ∀ (j : Nat) (v : Value), (nums .u16 x)[j]? = some v → wr.cell? ((ad.add (k * 64)).add j) = some v := by
        intro j v hj
        have : w.cell? (ad.add (k * 64 + j)) = some v := hcell j v hj
        rw [← add_add] at this
        rw [HR.out.below.cell (World.block_lt_of_cell? w _ this)]
        exact this
      have hsz : (nums .u16 x).length = 64 := by rw [nums_length, hlo.1]
      have hfx := HF.out x
      have hlen : (ls.take k).length = k := by rw [List.length_take]; omega
      have h64 := HLL.out
      have hnl : (numsOf (ls.take k)).length = k := by rw [numsOf, List.length_map, hlen]
      have hfl : (firstsOf (ls.take k)).length ≤ k := by rw [firstsOf_length]; have := uniq_length (ls.take k); omega
      have hlim4 : ((numsOf (ls.take k)).length + 1) * 8 ≤ 140737488355328 := by omega
      have hlim5 : ((firstsOf (ls.take k)).length + 1) * 8 ≤ 140737488355328 := by omega
      have hnew : ls.take (k + 1) = ls.take k ++ [x] := htk
      have hl4 : numsOf (ls.take (k + 1)) = numsOf (ls.take k) ++ [num (ls.take (k + 1)) x] := by rw [htk]; exact numsOf_snoc _ _
      have hl5o : x ∈ ls.take k → firstsOf (ls.take (k + 1)) = firstsOf (ls.take k) := fun h => by rw [htk, firstsOf_old h]
      have hl5n : x ∉ ls.take k → firstsOf (ls.take (k + 1)) = firstsOf (ls.take k) ++ [(k : Int)] := fun h => by rw [htk, firstsOf_new h, hlen]
      have hnum : ∀ y, y ∈ ls.take k → num (ls.take (k + 1)) y = num (ls.take k) y := fun y hy => by rw [htk]; exact num_old hy
      have hnn : x ∉ ls.take k → num (ls.take (k + 1)) x = (((firstsOf (ls.take k)).length + 1 : Nat) : Int) := fun h => by rw [htk, num_new h, firstsOf_length]
      have hmem : ∀ y, y ∈ ls.take (k + 1) ↔ y ∈ ls.take k ∨ y = x := fun y => by rw [htk, List.mem_append, List.mem_singleton]
      have hpos := num_pos (ls.take k) x
      have hle : x ∈ ls.take k → num (ls.take k) x ≤ k := fun h => by have h1 := num_le h; have h2 := uniq_length (ls.take k); omega
      generalize numsOf (ls.take k) = L4 at *
      generalize firstsOf (ls.take k) = L5 at *
      have HCW := Aside0.mk hcw
      have HLO := Aside0.mk hlo
      have HSZ := Aside0.mk hsz
      have HFX := Aside0.mk hfx
      have HLIM4 := Aside0.mk hlim4
      have HLIM5 := Aside0.mk hlim5
      have HL4 := Aside0.mk hl4
      have HL5o := Aside0.mk hl5o
      have HL5n := Aside0.mk hl5n
      have HNUM := Aside0.mk hnum
      have HNN := Aside0.mk hnn
      have HMEM := Aside0.mk hmem
      have HPOS := Aside0.mk hpos
      have HLE := Aside0.mk hle
      clear hl hK hcell hget hcw hlo hsz hfx hlim4 hlim5 hl4 hl5o hl5n hnum hnn hmem hpos hle htk hxx hnl hfl hnew hlen h64
      have c0' : (k : Int) < ls.length := by omega
      have HSA := Aside0.mk (show (nums .u16 x).toArray.size = cur.size by rw [List.size_toArray, HSZ.out, HCUR.out])
      have HIA := Aside0.mk (show (Try.prog.info? 65).map (·.size) = some (nums .u16 x).toArray.size by rw [List.size_toArray, HSZ.out]; exact i65)
      have HIL := Aside0.mk (show (Try.prog.info? 65).map (·.size) = some (nums .u16 x).length by rw [HSZ.out]; exact i65)
      have HOA := Aside0.mk (show (nums .u16 x).toArray.all (·.oneCell') = true by rw [Array.all_eq_true_iff_forall_mem]; intro u hu; exact nums_one _ _ u (by simpa using hu))
      go_upto_region 6 with (first | ((with_reducible refine gate_dst (N := 16) rfl ?_); refine wpList_load_at rfl 65 (.tmp 15) rfl (ad.add (k * 64)) ?hx (nums .u16 x) HCW.out _ Try.underlying65 rfl HIL.out ?_; (case hx => rfl)) | ((with_reducible refine gate_store (t := 65) (p := 8) (v := .tmp 16) rfl ?_); refine wpList_store_var rfl 65 (.tmp 8) (.tmp 16) rfl wr.heap.size (nums .u16 x).toArray ?hx ?hy (cs := cur) (t := 65) (heap_alloc_new wr _) HSA.out HIA.out HOA.out ?_; (case hx => rfl); (case hy => rfl)))
      (try simp only [Act.put])
      have hb2 : Below wr.heap.size wr ((wr.alloc (.cells cur 65)).setCells wr.heap.size 0 (nums .u16 x).toArray.toList) := setCells_below (below_alloc (Below.refl _ _) _) (Nat.le_refl _) _
      have hS2 : Stays ((wr.alloc (.cells cur 65)).setCells wr.heap.size 0 (nums .u16 x).toArray.toList) wr.heap.size (nums .u16 x).toArray 65 := setCells_var (vs := (nums .u16 x).toArray) (heap_alloc_new wr _) (by rw [List.size_toArray, HSZ.out, HCUR.out])
      have hR2 := HR.out.move hb2
      obtain ⟨W2, hW2⟩ : ∃ W2, W2 = ((wr.alloc (.cells cur 65)).setCells wr.heap.size 0 (nums .u16 x).toArray.toList) := ⟨_, rfl⟩
      obtain ⟨g8, hg8⟩ : ∃ g8, g8 = wr.heap.size := ⟨_, rfl⟩
      rw [← hW2] at hS2 hR2 ⊢
      rw [← hg8] at hS2 ⊢
      obtain ⟨xa, hxa⟩ : ∃ xa, xa = (nums .u16 x).toArray := ⟨_, rfl⟩
      rw [← hxa] at hS2
      have HXA := Aside0.mk hxa
      have hxs : (Try.prog.info? 65).map (·.size) = some xa.size := by rw [hxa, List.size_toArray, HSZ.out]; exact i65
      have HXS := Aside0.mk hxs
      have HS2 := Aside0.mk hS2
      have HR2 := Aside0.mk hR2
      clear hb2 hS2 hR2 hW2 hg8 hxa hxs
      by_cases hin : x ∈ ls.take k
      · have hlk := look_line HR2.out.map HLO.out xa HXA.out
        have hfx := HFX.out.1 hin
        rw [hfx, Option.getD_some] at hlk
        have hp := HPOS.out
        generalize hqq : num (ls.take k) x = q at *
        have hq0 : (q == (0 : Int)) = false := by rw [beq_eq_false_iff_ne]; omega
        have HIN := Aside0.mk hin
        have HQQ := Aside0.mk hqq
        have HFX2 := Aside0.mk hfx
        clear hp hfx hqq hin
        go_wp2_with (first | ((with_reducible refine gate_dst (N := 18) rfl ?_); refine wpList_load_blk rfl 65 (.tmp 8) rfl g8 ?hx xa 65 HS2.out _ Try.underlying65 rfl HXS.out ?_; (case hx => rfl)) | ((with_reducible refine gate_dst (N := 31) rfl ?_); refine wpList_load_blk rfl 65 (.tmp 8) rfl g8 ?hx xa 65 HS2.out _ Try.underlying65 rfl HXS.out ?_; (case hx => rfl)) | ((with_reducible refine gate_builtin (b := .append) (xs := #[.tmp 29, .tmp 33]) rfl ?_); at_builtin; refine Kd.R_append (Kd.int .i64) (w0 := w) w.heap.size rfl (.tmp 29) (.tmp 33) 23 3 (.int .i64 0) 8 rfl Try.underlying23 info3 rfl (by decide) (by decide) u4 L4 q [.int .i64 q] (fun b => b ≠ w.heap.size) (fun _ => False) rfl rfl rfl (fun _ hk => hk.elim) (fun k hk e => by have := HR2.out.map.lt; omega) HR2.out.r4 HR2.out.below HR2.out.below.size HLIM4.out ?_; intro v8 w8 hR8 hB8 hg8 hat8; have HR8 := Aside0.mk (HR2.out.app4 hR8 hB8 hg8 hat8); clear hR8 hB8 hg8 hat8))
        go_roundw
        case rel => exact ⟨k + 1, f, n, by omega, by go_num, ⟨by rw [HL4.out, HNUM.out x HIN.out, HQQ.out, HL5o.out HIN.out]; exact HR8.out⟩, ⟨fun l => ⟨fun hl => by
          have hl2 : l ∈ ls.take k := by
            rcases (HMEM.out l).1 hl with h | h
            · exact h
            · rw [h]; exact HIN.out
          rw [HNUM.out l hl2]; exact (HF.out l).1 hl2, fun hl => (HF.out l).2 (fun h => hl ((HMEM.out l).2 (.inl h)))⟩⟩⟩
        case measure => simp [intOf]; omega
      · have hlk := look_line HR2.out.map HLO.out xa HXA.out
        have hfx := HFX.out.2 hin
        rw [hfx, Option.getD_none] at hlk
        have HNIN := Aside0.mk hin
        clear hfx hin
        go_upto_region 8 with (first | ((with_reducible refine gate_dst (N := 18) rfl ?_); refine wpList_load_blk rfl 65 (.tmp 8) rfl g8 ?hx xa 65 HS2.out _ Try.underlying65 rfl HXS.out ?_; (case hx => rfl)) | ((with_reducible refine gate_builtin (b := .append) (xs := #[.tmp 21, .tmp 23]) rfl ?_); at_builtin; refine Kd.R_append (Kd.int .i64) (w0 := w) w.heap.size rfl (.tmp 21) (.tmp 23) 23 3 (.int .i64 0) 8 rfl Try.underlying23 info3 rfl (by decide) (by decide) u5 L5 (k : Int) [.int .i64 k] (fun b => b ≠ w.heap.size) (fun _ => False) rfl rfl rfl (fun _ hk => hk.elim) (fun k hk e => by have := HR2.out.map.lt; omega) HR2.out.r5 HR2.out.below HR2.out.below.size HLIM5.out ?_; intro v8 w8 hR8 hB8 hg8 hat8; have HR8 := Aside0.mk (HR2.out.app5 hR8 hB8 hg8 hat8); have HS8 := Aside0.mk (show Stays w8 g8 xa 65 from (hg8.block _ (Array.getElem?_eq_some_iff.1 HS2.out).1 (Kd.R_ne HR2.out.r5 HS2.out (by decide))).trans HS2.out); clear hR8 hB8 hg8 hat8))
        clear hlk
        obtain ⟨A8, c8, e8⟩ := Kd.R_slice HR8.out.r5
        obtain ⟨m, hm⟩ : ∃ m, m = (L5 ++ [(k : Int)]).length := ⟨_, rfl⟩
        rw [← hm] at e8
        subst e8
        have hm1 : m = L5.length + 1 := by rw [hm]; simp
        have HMM := Aside0.mk hm1
        clear hm hm1
        obtain ⟨w9, hrun, hM9, hg9⟩ := HR8.out.map.update line_key Try.underlying102 HLO.out (m : Int)
        have hrun9 : (Instr.mapUpdate 102 (.map (some w.heap.size)) (.agg xa) (.int .i64 (m : Int))).run Try.prog w8 = .ok () w9 := by rw [HXA.out]; exact hrun
        have HR9 := Aside0.mk (HR8.out.put hM9 hg9)
        have HS9 := Aside0.mk (show Stays w9 g8 xa 65 from (hg9.block _ (Array.getElem?_eq_some_iff.1 HS8.out).1 (fun e => map_ne HR8.out.map HS8.out (Option.some.inj e))).trans HS8.out)
        clear hrun hM9 hg9
        go_upto_region 9 with (first | ((with_reducible refine gate_dst (N := 26) rfl ?_); refine wpList_load_blk rfl 65 (.tmp 8) rfl g8 ?hx xa 65 HS8.out _ Try.underlying65 rfl HXS.out ?_; (case hx => rfl)))
        clear hrun9
        have hlk := look_line HR9.out.map HLO.out xa HXA.out
        rw [upd_same, Option.getD_some] at hlk
        go_wp2_with (first | ((with_reducible refine gate_dst (N := 31) rfl ?_); refine wpList_load_blk rfl 65 (.tmp 8) rfl g8 ?hx xa 65 HS9.out _ Try.underlying65 rfl HXS.out ?_; (case hx => rfl)) | ((with_reducible refine gate_builtin (b := .append) (xs := #[.tmp 29, .tmp 33]) rfl ?_); at_builtin; refine Kd.R_append (Kd.int .i64) (w0 := w) w.heap.size rfl (.tmp 29) (.tmp 33) 23 3 (.int .i64 0) 8 rfl Try.underlying23 info3 rfl (by decide) (by decide) u4 L4 (m : Int) [.int .i64 m] (fun b => b ≠ w.heap.size) (fun _ => False) rfl rfl rfl (fun _ hk => hk.elim) (fun k hk e => by have := HR9.out.map.lt; omega) HR9.out.r4 HR9.out.below HR9.out.below.size HLIM4.out ?_; intro v10 w10 hR10 hB10 hg10 hat10; have HR10 := Aside0.mk (HR9.out.app4 hR10 hB10 hg10 hat10); clear hR10 hB10 hg10 hat10))
        go_roundw
        case rel => exact ⟨k + 1, _, _, by omega, by go_num, ⟨by rw [HL4.out, HNN.out HNIN.out, ← HMM.out, HL5n.out HNIN.out]; exact HR10.out⟩, ⟨fun l => ⟨fun hl => by
          by_cases e : l = x
          · rw [e, upd_same, HNN.out HNIN.out, HMM.out]
          · have hl2 : l ∈ ls.take k := by
              rcases (HMEM.out l).1 hl with h | h
              · exact h
              · exact absurd h e
            rw [upd_other _ _ e, HNUM.out l hl2]; exact (HF.out l).1 hl2, fun hl => by
          have e : l ≠ x := fun e => hl ((HMEM.out l).2 (.inr e))
          rw [upd_other _ _ e]; exact (HF.out l).2 (fun h => hl ((HMEM.out l).2 (.inl h)))⟩⟩⟩
        case measure => simp [intOf]; omega
    · have hkk : k = ls.length := by omega
      subst hkk
      have hfin := HR.out
      rw [List.take_length] at hfin
      have HFI := Aside0.mk hfin
      clear hfin
      obtain ⟨A4, c4, e4⟩ := Kd.R_slice HFI.out.r4
      obtain ⟨A5, c5, e5⟩ := Kd.R_slice HFI.out.r5
      go_wp2
      go_ret2
      exact ⟨_, _, rfl, Kd.R_mono HFI.out.r4 (fun _ _ => trivial), Kd.R_mono HFI.out.r5 (fun _ _ => trivial), HFI.out.below⟩
end Go.Proofs.Ythaiodklfoegiaa.CClasses

/- mean.subject. -/
namespace Go.Proofs.Ythaiodklfoegiaa.MPol
open Go.RowKit Go.Proofs.YthaiodklfoegiaaW.PrintWords Go.Proofs.YthaiodklfoegiaaW.PrintLast Go.Proofs.YthaiodklfoegiaaW.PrintMore Go.Proofs.Ythaiodklfoegiaa.BMap Go.Proofs.Ythaiodklfoegiaa.BRow Go.Proofs.Ythaiodklfoegiaa.MLines Go.Proofs.Ythaiodklfoegiaa.MPut Go.Proofs.Ythaiodklfoegiaa.MClose Go.Proofs.Ythaiodklfoegiaa.MConcat Go.Proofs.Ythaiodklfoegiaa.MStand Go.Proofs.Ythaiodklfoegiaa.MSide Go.Maps
open Go.Proofs.Ythaiodklfoegiaa Go.Proofs.Ythaiodklfoegiaa.PG Go.Proofs.YthaiodklfoegiaaF

/-- A value of one cell into a cell. -/
theorem wpList_store_one {P : Program} {w : World} {ops : Array Oper} {rest : List Oper} {op : Oper} {a : Act} {Q : Exit → Act → World → Prop} (hgd : op.guard = none) (ty : TypeId) (x y : Operand) (ho : op.op = .store ty x y) (b o : Nat) (v : Value) (hv : v.cells = #[v]) (h1 : v.oneCell' = true)
    (hx : a.eval x = .pointer (some ⟨b, o, none⟩)) (hy : a.eval y = v) (ht : w.there b o 1) (hi : (P.info? ty).map (·.size) = some 1) (h : wpList P ops Q rest (a.put op.dst undef) (w.setCell ⟨b, o, none⟩ v)) : wpList P ops Q (op :: rest) a w := by
  refine wpList_plain hgd fun K hK => ?_
  have hrun : (storeVar ty ⟨b, o, none⟩ v).run P w = .ok () (w.setCell ⟨b, o, none⟩ v) := by
    have := run_storeCells_cells (P := P) b o [v] 0 w (fun j hj => by simpa using (ht j (by simpa using hj)).1) (fun j hj => by simpa using (ht j (by simpa using hj)).2) (fun u hu => by rw [List.mem_singleton.1 hu]; exact h1)
    cases hq : P.info? ty with
    | none => simp [hq] at hi
    | some i =>
      have hs : i.size = 1 := by simpa [hq] using hi
      simp only [Nat.add_zero, World.setCells] at this
      simp [storeVar, sizeOf, typeInfo, hq, hv, hs, this]
  unfold Oper.wp execOp
  simp only [ho, hx, hy, Instr.storeAt, Instr.sureAddr, Sem.run_bind, Sem.run_pure, Result.andThen_ok, hrun]
  exact hK _ _ h
theorem z54 (w : World) : (zeroValue 54).run Try.prog w = .ok (.agg #[.string ⟨#[]⟩, .float .f64 0]) w := by kernel_rfl
theorem i54 : (Try.prog.info? 54).map (·.size) = some 2 := by kernel_rfl
theorem i52 : (Try.prog.info? 52).map (·.size) = some 1 := by kernel_rfl

theorem trust_skip {d : PolD} {s : ByteArray} {k : Nat} (hk : k < d.subs.length) (h : ∀ x ∈ d.subs.take k, x.f0 ≠ s) (he : d.subs[k].f0 = s) : d.trust s = some d.subs[k].f1 := by
  unfold PolD.trust
  have e : d.subs = d.subs.take k ++ d.subs[k] :: d.subs.drop (k + 1) := by rw [← List.drop_eq_getElem_cons hk, List.take_append_drop]
  have e2 : d.subs.find? (fun x => decide (x.f0 = s)) = some d.subs[k] := by
    rw [congrArg (List.find? (fun x => decide (x.f0 = s))) e, List.find?_append, List.find?_eq_none.2 (fun x hx => by simpa using h x hx), Option.none_or, List.find?_cons_of_pos (by simpa using he)]
  rw [e2]
  rfl
theorem trust_none {d : PolD} {s : ByteArray} (h : ∀ x ∈ d.subs, x.f0 ≠ s) : d.trust s = none := by
  unfold PolD.trust
  rw [List.find?_eq_none.2 (fun x hx => by simpa using h x hx)]
  rfl

set_option maxHeartbeats 4000000 in
set_option maxRecDepth 100000 in
theorem subject_calls (p : Pol) (s : ByteArray) (w : World) (hp : p.In w) (hd : p.d.Ok) (hs : okS s) :
    Calls Try.prog 60 #[.agg p.cells, .string s] w fun e w' => ∃ v, e = .returned (.tuple #[.agg v, .bool (p.d.trust s).isSome]) ∧ SideOf w' (p.d.trust s).isSome v s ((p.d.trust s).getD 0) (p.d.who s) ∧ Below w.heap.size w w' := by
  obtain ⟨d, A0, c0, A1, c1, A2, c2, A3, c3, A4, c4, A5, c5, A6, c6, A7, c7, A8, c8, A9, c9, A10, c10⟩ := p
  have hmax : d.subs.length ≤ 9223372036854775807 := hp.h1.2.1
  have HP := Aside0.mk hp
  have HD := Aside0.mk hd
  have HS := Aside0.mk hs
  clear hd hp hs
  have hT := Two.start (Pol.mk d A0 c0 A1 c1 A2 c2 A3 c3 A4 c4 A5 c5 A6 c6 A7 c7 A8 c8 A9 c9 A10 c10) w
  have e1 := hT.s0.cell 1
  simp only [Pol.cells, List.getElem?_toArray, List.getElem?_cons_zero, List.getElem?_cons_succ, noneV] at e1
  have HT := Aside0.mk hT
  clear hT
  have hz := z95
  have hPost : ∀ v W, (∃ v', v = v' ∧ SideOf W (d.trust s).isSome v' s ((d.trust s).getD 0) (d.who s)) → True := fun _ _ _ => trivial
  clear hPost
  unfold Pol.cells
  unfold Pol.cells noneV at HT
  simp only [] at HT e1 ⊢
  go_enter Try.func60, Try.ntmps60
  go_wp2
  clear e1
  go_loopw [12] (fun u wr => ∃ k : Nat, k ≤ d.subs.length ∧ u = .int .i64 k ∧ Aside0 (Two (Pol.mk d A0 c0 A1 c1 A2 c2 A3 c3 A4 c4 A5 c5 A6 c6 A7 c7 A8 c8 A9 c9 A10 c10) w wr noneV) ∧ Aside0 (∀ x ∈ d.subs.take k, x.f0 ≠ s)) (fun u _ => d.subs.length - (intOf u).toNat)
  case atStart => exact ⟨0, Nat.zero_le _, rfl, HT, ⟨by simp⟩⟩
  case round =>
    obtain ⟨k, hk, rfl, HR, HN⟩ := hrel
    by_cases hlt : k < d.subs.length
    · obtain ⟨ad, e0, hx0, hx1⟩ := at_T54 (HP.out.below HR.out.below).h1 (k : Int) (by omega) (by simp only []; omega)
      have hget : rd_T54 d.subs (k : Int) = d.subs[k] := by simp [rd_T54, hlt]
      simp only [hget, Int.toNat_natCast] at hx0 hx1
      have e0 : A1 = some ad := e0
      subst e0
      have htk : d.subs.take (k + 1) = d.subs.take k ++ [d.subs[k]] := List.take_succ_eq_append_getElem hlt
      have htr := trust_skip (s := s) hlt HN.out
      obtain ⟨x, hxx⟩ : ∃ x, x = d.subs[k] := ⟨_, rfl⟩
      rw [← hxx] at hx0 hx1 htk htr
      have HTK := Aside0.mk htk
      have HTR := Aside0.mk htr
      have hcw : ∀ (j : Nat) (v : Value), ([.string x.f0, .float .f64 x.f1] : List Value)[j]? = some v → wr.cell? ((ad.add (k * 2)).add j) = some v := by
        intro j v hj
        have hj2 : j < 2 := (List.getElem?_eq_some_iff.1 hj).1
        have : j = 0 ∨ j = 1 := by omega
        rcases this with rfl | rfl
        · obtain rfl : Value.string x.f0 = v := by simpa using hj
          rw [Addr.add_zero']; exact hx0
        · obtain rfl : Value.float .f64 x.f1 = v := by simpa using hj
          rw [add_add, add_field _ _ 1 (by omega)]; exact hx1
      have HCW := Aside0.mk hcw
      have c0' : (k : Int) < d.subs.length := by omega
      clear hx0 hx1 hget htk htr hxx hcw
      go_upto_region 4 with (first | ((with_reducible refine gate_dst (N := 15) rfl ?_); refine wpList_load_at rfl 54 (.tmp 14) rfl (ad.add (k * 2)) ?hx [.string x.f0, .float .f64 x.f1] HCW.out _ Try.underlying54 rfl i54 ?_; (case hx => rfl); refine wpList_alloc_store rfl rfl 54 7 (.tmp 15) rfl rfl rfl #[.string ⟨#[]⟩, .float .f64 0] #[.string x.f0, .float .f64 x.f1] _ (z54 _) rfl i54 rfl (by simp [Value.oneCell']) ?hy ?hp ?_; (case hy => rfl); (case hp => rfl)))
      simp only [Act.put, List.setIfInBounds_toArray, List.set_cons_succ, List.set_cons_zero]
      have hS2 := heap_alloc_new wr (.cells #[.string x.f0, .float .f64 x.f1] 54)
      have hT2 := HR.out.move (below_alloc (Below.refl _ wr) (.cells #[.string x.f0, .float .f64 x.f1] 54))
      obtain ⟨W2, hW2⟩ : ∃ W2, W2 = wr.alloc (.cells #[.string x.f0, .float .f64 x.f1] 54) := ⟨_, rfl⟩
      obtain ⟨g7, hg7⟩ : ∃ g7, g7 = wr.heap.size := ⟨_, rfl⟩
      rw [← hg7] at hS2 ⊢
      rw [← hW2] at hS2 hT2 ⊢
      have hS2 : Stays W2 g7 #[.string x.f0, .float .f64 x.f1] 54 := hS2
      have x0 : W2.cell? ⟨g7, 0, none⟩ = some (.string x.f0) := hS2.cell 0
      have e5 := hT2.s0.cell 5
      have e6 := hT2.s0.cell 6
      simp only [Pol.cells, List.getElem?_toArray, List.getElem?_cons_zero, List.getElem?_cons_succ] at e5 e6
      have HT2 := Aside0.mk hT2
      have HS2 := Aside0.mk hS2
      clear hS2 hT2 hW2 hg7
      by_cases he : x.f0 = s
      · have hq : (x.f0.toList == s.toList) = true := by rw [he]; exact beq_self_eq_true _
        have HTR2 := Aside0.mk (HTR.out he)
        clear he
        go_upto_region 6 with (first | (go_at_call 75; (with_reducible refine (stand_calls s A5 c5 d.mem A6 c6 d.inh _ (HP.out.below HT2.out.below).h5 (HP.out.below HT2.out.below).h6 HS.out (fun q hq => (List.mem_append.1 hq).elim (HD.out.mem q) (HD.out.inh q)) (by have := HD.out.lmem; have := HD.out.linh; omega)).mono ?_); rintro e w3 ⟨b, rfl, hS, hge, hb3⟩; have HT3 := Aside0.mk (HT2.out.move hb3); have HS3 := Aside0.mk (HS2.out.below hb3); have HSET := Aside0.mk hS; have HLT := Aside0.mk hS.lt; have HNE := Aside0.mk (show b ≠ w.heap.size + 1 by have := (Array.getElem?_eq_some_iff.1 HT2.out.s1).1; omega); clear hS hge hb3) | ((with_reducible refine gate_dst (N := 8) rfl ?_); refine wpList_alloc_store rfl rfl 95 8 (.tmp 25) rfl rfl rfl noneV (sideV s 0 b) _ (z95 _) rfl i95 rfl (by simp [sideV, Value.oneCell']) ?hy ?hp ?_; (case hy => rfl); (case hp => rfl)))
        simp only [Act.put, List.setIfInBounds_toArray, List.set_cons_succ, List.set_cons_zero]
        have hS4 := heap_alloc_new w3 (.cells (sideV s 0 b) 95)
        have hb4 := below_alloc (Below.refl _ w3) (.cells (sideV s 0 b) 95)
        have hT4 := HT3.out.move hb4
        have hS7 := HS3.out.below hb4
        have hSET4 := HSET.out.below hb4
        obtain ⟨W4, hW4⟩ : ∃ W4, W4 = w3.alloc (.cells (sideV s 0 b) 95) := ⟨_, rfl⟩
        obtain ⟨g8, hg8⟩ : ∃ g8, g8 = w3.heap.size := ⟨_, rfl⟩
        rw [← hg8] at hS4 ⊢
        rw [← hW4] at hS4 hT4 hS7 hSET4 ⊢
        have hb8 : b ≠ g8 := by rw [hg8]; exact Nat.ne_of_lt HLT.out
        have h18 : w.heap.size + 1 < g8 := by rw [hg8]; exact (Array.getElem?_eq_some_iff.1 HT3.out.s1).1
        have hS4 : Stays W4 g8 (sideV s 0 b) 95 := hS4
        have x1 : W4.cell? ⟨g7, 1, none⟩ = some (.float .f64 x.f1) := hS7.cell 1
        have hth : W4.there g8 1 1 := fun j hj => by
          obtain rfl : j = 0 := by omega
          exact ⟨by rw [hS4.cell]; rfl, MPut.frozen_of_row hS4 _⟩
        have hS5 : Stays (W4.setCell ⟨g8, 1, none⟩ (.float .f64 x.f1)) g8 (sideV s x.f1 b) 95 := blk_put hS4 1 _ rfl
        have h15 : Stays (W4.setCell ⟨g8, 1, none⟩ (.float .f64 x.f1)) (w.heap.size + 1) noneV 95 := (Below.heap_setCell _ _ _ _ (by show w.heap.size + 1 ≠ g8; omega)).trans hT4.s1
        have hset5 : IsSet (W4.setCell ⟨g8, 1, none⟩ (.float .f64 x.f1)) b (d.who s) := by
          obtain ⟨f, n, hM, hf⟩ := hSET4
          exact ⟨f, n, hM.setCell (by show g8 ≠ b; exact hb8.symm) _, hf⟩
        have hbel5 : Below w.heap.size w (W4.setCell ⟨g8, 1, none⟩ (.float .f64 x.f1)) := below_set hT4.below (by omega)
        have HTH := Aside0.mk hth
        have HS5 := Aside0.mk hS5
        have H15 := Aside0.mk h15
        have HSET5 := Aside0.mk hset5
        have HBEL := Aside0.mk hbel5
        clear hS4 hb4 hT4 hS7 hSET4 hW4 hg8 hth hS5 h15 hset5 hbel5
        go_wp2_with (first | ((with_reducible refine gate_store (t := 52) (p := 28) (v := .tmp 27) rfl ?_); refine wpList_store_one rfl 52 (.tmp 28) (.tmp 27) rfl g8 1 (.float .f64 x.f1) rfl rfl ?hx ?hy HTH.out i52 ?_; (case hx => rfl); (case hy => rfl)) | ((with_reducible refine gate_dst (N := 29) rfl ?_); refine wpList_load_blk rfl 95 (.tmp 8) rfl g8 ?hx (sideV s x.f1 b) 95 HS5.out _ Try.underlying95 rfl i95 ?_; (case hx => rfl); refine wpList_store_var rfl 95 (.tmp 4) (.tmp 29) rfl (w.heap.size + 1) (sideV s x.f1 b) ?hx ?hy H15.out rfl i95 (by simp [sideV, Value.oneCell']) ?_; (case hx => rfl); (case hy => rfl)))
        (try simp only [Exit.inBlock, Exit.then])
        refine bodyPost_ret (results_ct rfl _ _ (w.heap.size + 1) 95 (sideV s x.f1 b) (0, 0) _ rfl (setCells_var H15.out rfl) Try.underlying95 rfl i95) rfl ?_
        rw [HTR2.out]
        exact ⟨sideV s x.f1 b, rfl, ⟨fun _ => ⟨b, rfl, setCells_set HSET5.out HNE.out _⟩, fun e => (by cases e)⟩, setCells_below HBEL.out (by omega) _⟩
      · have hq : (x.f0.toList == s.toList) = false := by
          rw [Bool.eq_false_iff]
          intro e
          rw [beq_iff_eq, ByteArray.toList_eq, ByteArray.toList_eq] at e
          exact he (ByteArray.ext (Array.toList_inj.mp e))
        have HE := Aside0.mk he
        clear he
        go_wp2
        go_roundw
        case rel => exact ⟨k + 1, by omega, by go_num, HT2, ⟨fun y hy => by rw [HTK.out, List.mem_append, List.mem_singleton] at hy; rcases hy with hy | rfl; exact HN.out y hy; exact HE.out⟩⟩
        case measure => simp [intOf]; omega
    · have hkk : k = d.subs.length := by omega
      subst hkk
      have htn := trust_none (d := d) (s := s) (fun x hx => HN.out x (by rw [List.take_length]; exact hx))
      have HTN := Aside0.mk htn
      clear htn
      go_wp2_with (first | ((with_reducible refine gate_store (t := 95) (p := 4) (v := .tmp 31) rfl ?_); refine wpList_store_var rfl 95 (.tmp 4) (.tmp 31) rfl (w.heap.size + 1) noneV ?hx ?hy HR.out.s1 rfl i95 (by simp [noneV, Value.oneCell']) ?_; (case hx => rfl); (case hy => rfl)))
      (try simp only [Exit.inBlock, Exit.then])
      refine bodyPost_ret (results_ct rfl _ _ (w.heap.size + 1) 95 noneV (0, 0) _ rfl (setCells_var HR.out.s1 rfl) Try.underlying95 rfl i95) rfl ?_
      rw [HTN.out]
      exact ⟨noneV, rfl, ⟨fun e => (by cases e), fun _ => rfl⟩, setCells_below HR.out.below (by omega) _⟩
end Go.Proofs.Ythaiodklfoegiaa.MPol

/- mean.about. -/
namespace Go.Proofs.Ythaiodklfoegiaa.MPol
open Go.RowKit Go.Proofs.YthaiodklfoegiaaW.PrintWords Go.Proofs.YthaiodklfoegiaaW.PrintLast Go.Proofs.YthaiodklfoegiaaW.PrintMore Go.Proofs.Ythaiodklfoegiaa.BMap Go.Proofs.Ythaiodklfoegiaa.BRow Go.Proofs.Ythaiodklfoegiaa.MLines Go.Proofs.Ythaiodklfoegiaa.MPut Go.Proofs.Ythaiodklfoegiaa.MClose Go.Proofs.Ythaiodklfoegiaa.MConcat Go.Proofs.Ythaiodklfoegiaa.MStand Go.Proofs.Ythaiodklfoegiaa.MSide Go.Maps
open Go.Proofs.Ythaiodklfoegiaa Go.Proofs.Ythaiodklfoegiaa.PG Go.Proofs.YthaiodklfoegiaaF

/-- about's variables. -/
structure Abt (p : Pol) (w W : World) (v1 v2 : Array Value) (b1 b2 : Nat) (R1 R2 : ByteArray → Prop) : Prop where
  below : Below w.heap.size w W
  s0 : Stays W w.heap.size p.cells 39
  s1 : Stays W (w.heap.size + 1) v1 95
  s2 : Stays W (w.heap.size + 1 + 1) v2 95
  set1 : IsSet W b1 R1
  set2 : IsSet W b2 R2
theorem Abt.move {p : Pol} {w W W1 : World} {v1 v2 : Array Value} {b1 b2 : Nat} {R1 R2 : ByteArray → Prop} (h : Abt p w W v1 v2 b1 b2 R1 R2) (hb : Below W.heap.size W W1) : Abt p w W1 v1 v2 b1 b2 R1 R2 :=
  ⟨below_then h.below h.below.size hb, h.s0.below hb, h.s1.below hb, h.s2.below hb, h.set1.below hb, h.set2.below hb⟩
theorem Abt.start (p : Pol) (w : World) (v1 v2 : Array Value) {b1 b2 : Nat} {R1 R2 : ByteArray → Prop} (h1 : IsSet w b1 R1) (h2 : IsSet w b2 R2) : Abt p w (((w.alloc (.cells p.cells 39)).alloc (.cells v1 95)).alloc (.cells v2 95)) v1 v2 b1 b2 R1 R2 := by
  have hb1 : Below w.heap.size w (w.alloc (.cells p.cells 39)) := below_alloc (Below.refl _ _) _
  have hb2 := below_alloc hb1 (.cells v1 95)
  have hb3 := below_alloc hb2 (.cells v2 95)
  have e1 := heap_alloc_new (w.alloc (.cells p.cells 39)) (.cells v1 95)
  have e2 := heap_alloc_new ((w.alloc (.cells p.cells 39)).alloc (.cells v1 95)) (.cells v2 95)
  rw [World.size_alloc] at e1
  rw [World.size_alloc, World.size_alloc] at e2
  exact ⟨hb3, (Below.heap_alloc _ _ _ (by simp only [World.size_alloc]; omega)).trans ((Below.heap_alloc _ _ _ (by simp only [World.size_alloc]; omega)).trans (heap_alloc_new w _)), (Below.heap_alloc _ _ _ (by simp only [World.size_alloc]; omega)).trans e1, e2, h1.below hb3, h2.below hb3⟩
theorem Abt.grown {p : Pol} {w W W1 : World} {v1 v2 : Array Value} {b1 b2 : Nat} {R1 R2 : ByteArray → Prop} (h : Abt p w W v1 v2 b1 b2 R1 R2) {row : Option Nat} (hg : W.grownBy W1 row) (hb : Below w.heap.size w W1) (h0 : some w.heap.size ≠ row) (h1 : some (w.heap.size + 1) ≠ row) (h2 : some (w.heap.size + 1 + 1) ≠ row) (h3 : some b1 ≠ row) (h4 : some b2 ≠ row) : Abt p w W1 v1 v2 b1 b2 R1 R2 := by
  have mv : ∀ {b : Nat} {R : ByteArray → Prop}, IsSet W b R → some b ≠ row → IsSet W1 b R := by
    rintro b R ⟨f, n, hM, hf⟩ hne
    exact ⟨f, n, hM.grown hg hne, hf⟩
  exact ⟨hb, (hg.block _ (Array.getElem?_eq_some_iff.1 h.s0).1 h0).trans h.s0, (hg.block _ (Array.getElem?_eq_some_iff.1 h.s1).1 h1).trans h.s1, (hg.block _ (Array.getElem?_eq_some_iff.1 h.s2).1 h2).trans h.s2, mv h.set1 h3, mv h.set2 h4⟩
theorem z78v (w : World) : (zeroValue 78).run Try.prog w = .ok (.agg #[(.bool false), (.string ⟨#[]⟩), (.string ⟨#[]⟩), (.slice none 0 0), (.int .i8 0), (.float .f64 0)]) w := by kernel_rfl
theorem speaks_go (r : S78) (A3 : Option Addr) (c3 : Nat) (n1 : ByteArray) (t1 b1 : Nat) (R1 : ByteArray → Prop) (n2 : ByteArray) (t2 b2 : Nat) (R2 : ByteArray → Prop) (w : World) (q : Bool) (hq : speaksB r R1 R2 t1 = q)
    (hC : Kd.C Kd.string w A3 r.f3.length r.f3) (hc : r.f3.length ≤ c3) (h1 : IsSet w b1 R1) (h2 : IsSet w b2 R2) (o1 : okS r.f1) (o2 : okS r.f2) (v1 v2 : Array Value) (hv1 : v1 = sideV n1 t1 b1) (hv2 : v2 = sideV n2 t2 b2) :
    Calls Try.prog 78 #[.agg (ruleV r A3 c3), .agg v1, .agg v2] w fun e w' => e = .returned (.bool q) ∧ Below w.heap.size w w' := by
  subst hq; subst hv1; subst hv2; exact speaks_calls r A3 c3 n1 t1 b1 R1 n2 t2 b2 R2 w hC hc h1 h2 o1 o2

set_option maxHeartbeats 800000 in
set_option maxRecDepth 100000 in
theorem about_calls (p : Pol) (n1 : ByteArray) (t1 b1 : Nat) (R1 : ByteArray → Prop) (n2 : ByteArray) (t2 b2 : Nat) (R2 : ByteArray → Prop) (w : World) (hp : p.In w) (hd : p.d.Ok) (h1 : IsSet w b1 R1) (h2 : IsSet w b2 R2) :
    Calls Try.prog 64 #[.agg p.cells, .agg (sideV n1 t1 b1), .agg (sideV n2 t2 b2)] w fun e w' => ∃ v, e = .returned v ∧ ∃ A c, v = .slice A (p.d.rules.filter fun r => speaksB r R1 R2 t1).length c ∧ (p.d.rules.filter fun r => speaksB r R1 R2 t1).length ≤ c ∧ Kd.C k78 w' A (p.d.rules.filter fun r => speaksB r R1 R2 t1).length (p.d.rules.filter fun r => speaksB r R1 R2 t1) ∧ Below w.heap.size w w' := by
  obtain ⟨d, A0, c0, A1, c1, A2, c2, A3, c3, A4, c4, A5, c5, A6, c6, A7, c7, A8, c8, A9, c9, A10, c10⟩ := p
  have hmax : d.rules.length ≤ 9223372036854775807 := hp.h9.2.1
  have hlt1 := h1.lt
  have hlt2 := h2.lt
  have HP := Aside0.mk hp
  have HD := Aside0.mk hd
  have hA := Abt.start (Pol.mk d A0 c0 A1 c1 A2 c2 A3 c3 A4 c4 A5 c5 A6 c6 A7 c7 A8 c8 A9 c9 A10 c10) w (sideV n1 t1 b1) (sideV n2 t2 b2) h1 h2
  have e9 := hA.s0.cell 9
  simp only [Pol.cells, List.getElem?_toArray, List.getElem?_cons_zero, List.getElem?_cons_succ] at e9
  have HA := Aside0.mk hA
  clear hA hp hd h1 h2
  unfold Pol.cells
  unfold Pol.cells at HA
  obtain ⟨v1, hv1⟩ : ∃ v1, v1 = sideV n1 t1 b1 := ⟨_, rfl⟩
  obtain ⟨v2, hv2⟩ : ∃ v2, v2 = sideV n2 t2 b2 := ⟨_, rfl⟩
  have sz1 : v1.size = 3 := by rw [hv1]; rfl
  have sz2 : v2.size = 3 := by rw [hv2]; rfl
  rw [← hv1, ← hv2] at HA ⊢
  rw [← hv1, ← hv2] at e9
  have HV1 := Aside0.mk hv1
  have HV2 := Aside0.mk hv2
  have HSZ1 := Aside0.mk sz1
  have HSZ2 := Aside0.mk sz2
  clear hv1 hv2 sz1 sz2
  simp only [] at HA e9 ⊢
  go_enter Try.func64, Try.ntmps64
  go_wp2
  clear e9
  go_loopw [7, 13] (fun u7 u13 wr => ∃ k : Nat, k ≤ d.rules.length ∧ u13 = .int .i64 k ∧ Aside0 (Abt (Pol.mk d A0 c0 A1 c1 A2 c2 A3 c3 A4 c4 A5 c5 A6 c6 A7 c7 A8 c8 A9 c9 A10 c10) w wr v1 v2 b1 b2 R1 R2) ∧ Aside0 (OwnRow (k78.K w) 78 6 wr w.heap.size u7 ((d.rules.take k).filter fun r => speaksB r R1 R2 t1))) (fun _ u13 _ => d.rules.length - (intOf u13).toNat)
  case atStart => exact ⟨0, Nat.zero_le _, rfl, HA, ⟨OwnRow.none_ _ _ _ _ _⟩⟩
  case round =>
    obtain ⟨k, hk, rfl, HR, HRow⟩ := hrel
    obtain ⟨Ao, co, rfl, hlo⟩ := HRow.out.slice_
    by_cases hlt : k < d.rules.length
    · obtain ⟨ad, cs, e0, hcl, hK, hcell⟩ := Kd.C_get HP.out.h9 z78 (k : Int) (by omega) (by simp only []; omega)
      have e0 : A9 = some ad := e0
      subst e0
      have hget : d.rules.getD (k : Int).toNat z78 = d.rules[k] := by simp [hlt]
      have hK : k78.K w d.rules[k] cs := by rw [← hget]; exact hK
      have htk : d.rules.take (k + 1) = d.rules.take k ++ [d.rules[k]] := List.take_succ_eq_append_getElem hlt
      have hro := HD.out.rules d.rules[k] (List.getElem_mem hlt)
      obtain ⟨x, hxx⟩ : ∃ x, x = d.rules[k] := ⟨_, rfl⟩
      rw [← hxx] at hK htk hro
      obtain ⟨A3', c3', rfl, l3, g3⟩ := k78_open hK
      have hcw : ∀ (j : Nat) (v : Value), ([.bool x.f0, .string x.f1, .string x.f2, .slice A3' x.f3.length c3', .int .i8 x.f4, .float .f64 x.f5] : List Value)[j]? = some v → wr.cell? ((ad.add (k * 6)).add j) = some v := by
        intro j v hj
        have h0 := hcell j v hj
        have h0 : w.cell? (ad.add (k * 6 + j)) = some v := h0
        rw [add_add]
        exact pw_cell_below HR.out.below h0
      have HCW := Aside0.mk hcw
      have HTK := Aside0.mk htk
      have HRO := Aside0.mk hro
      have HL3 := Aside0.mk l3
      have HG3 := Aside0.mk g3
      have HK := Aside0.mk hK
      have c0' : (k : Int) < d.rules.length := by omega
      clear hcell hK hget htk hro hxx hcw hcl l3 g3
      go_upto_region 5 with (first | ((with_reducible refine gate_dst (N := 16) rfl ?_); refine wpList_load_at rfl 78 (.tmp 15) rfl (ad.add (k * 6)) ?hx [.bool x.f0, .string x.f1, .string x.f2, .slice A3' x.f3.length c3', .int .i8 x.f4, .float .f64 x.f5] HCW.out _ Try.underlying78 rfl i78 ?_; (case hx => rfl); refine wpList_alloc_store rfl rfl 78 9 (.tmp 16) rfl rfl rfl #[(.bool false), (.string ⟨#[]⟩), (.string ⟨#[]⟩), (.slice none 0 0), (.int .i8 0), (.float .f64 0)] (ruleV x A3' c3') _ (z78v _) rfl i78 rfl (by simp [ruleV, Value.oneCell']) ?hy ?hp ?_; (case hy => rfl); (case hp => rfl)))
      simp only [Act.put, List.setIfInBounds_toArray, List.set_cons_succ, List.set_cons_zero]
      have hS2 := heap_alloc_new wr (.cells (ruleV x A3' c3') 78)
      have hb2 := below_alloc (Below.refl _ wr) (.cells (ruleV x A3' c3') 78)
      have hA2 := HR.out.move hb2
      have hR2 := HRow.out.below hb2
      obtain ⟨W2, hW2⟩ : ∃ W2, W2 = wr.alloc (.cells (ruleV x A3' c3') 78) := ⟨_, rfl⟩
      obtain ⟨g9, hg9⟩ : ∃ g9, g9 = wr.heap.size := ⟨_, rfl⟩
      rw [← hg9] at hS2 ⊢
      rw [← hW2] at hS2 hA2 hR2 ⊢
      have hS2 : Stays W2 g9 (ruleV x A3' c3') 78 := hS2
      have HA2 := Aside0.mk hA2
      have HR2 := Aside0.mk hR2
      have HS2 := Aside0.mk hS2
      clear hS2 hA2 hR2 hW2 hg9 hb2
      obtain ⟨q, hq⟩ : ∃ q, speaksB x R1 R2 t1 = q := ⟨_, rfl⟩
      have HQ := Aside0.mk hq
      clear hq
      go_upto_if 20 with (first | ((with_reducible refine gate_dst (N := 17) rfl ?_); refine wpList_load_blk rfl 78 (.tmp 9) rfl g9 ?hx (ruleV x A3' c3') 78 HS2.out _ Try.underlying78 rfl i78 ?_; (case hx => rfl)) | ((with_reducible refine gate_dst (N := 18) rfl ?_); refine wpList_load_blk rfl 95 (.tmp 4) rfl (w.heap.size + 1) ?hx v1 95 HA2.out.s1 _ Try.underlying95 rfl (by rw [HSZ1.out]; exact i95) ?_; (case hx => rfl)) | ((with_reducible refine gate_dst (N := 19) rfl ?_); refine wpList_load_blk rfl 95 (.tmp 5) rfl (w.heap.size + 1 + 1) ?hx v2 95 HA2.out.s2 _ Try.underlying95 rfl (by rw [HSZ2.out]; exact i95) ?_; (case hx => rfl)) | (go_at_call 78; (with_reducible refine (speaks_go x A3' c3' n1 t1 b1 R1 n2 t2 b2 R2 _ q HQ.out (Kd.C_below HG3.out HA2.out.below) HL3.out HA2.out.set1 HA2.out.set2 HRO.out.1 HRO.out.2 v1 v2 HV1.out HV2.out).mono ?_); rintro e w3 ⟨rfl, hb3⟩; have HA3 := Aside0.mk (HA2.out.move hb3); have HR3 := Aside0.mk (HR2.out.below hb3); have HS3 := Aside0.mk (HS2.out.below hb3); clear hb3))
      have hlim : (((d.rules.take k).filter fun r => speaksB r R1 R2 t1).length + 1) * 80 ≤ 140737488355328 := by
        have h1 := List.length_filter_le (fun r => speaksB r R1 R2 t1) (d.rules.take k)
        rw [List.length_take] at h1
        have h2 := HD.out.lrules
        omega
      have HLIM := Aside0.mk hlim
      clear hlim
      have hfil : (d.rules.take (k + 1)).filter (fun r => speaksB r R1 R2 t1) = (d.rules.take k).filter (fun r => speaksB r R1 R2 t1) ++ if q = true then [x] else [] := by
        rw [HTK.out, List.filter_append, List.filter_cons, HQ.out]
        cases q <;> simp
      have HFIL := Aside0.mk hfil
      clear hfil
      obtain ⟨L, hL⟩ : ∃ L, L = (d.rules.take k).filter (fun r => speaksB r R1 R2 t1) := ⟨_, rfl⟩
      rw [← hL] at HR3 HLIM HFIL hlo ⊢
      have HLL := Aside0.mk hL
      clear hL
      have HNB := Aside0.mk (fun (b : Nat) (hb : b < w.heap.size) => show some b ≠ (Value.slice Ao L.length co).ownBlock from fun e => by
        obtain ⟨inner, ho, _⟩ := HR3.out
        have := own_base ho b e.symm
        omega)
      cases q with
      | true =>
        go_wp2_with (first | ((with_reducible refine gate_dst (N := 22) rfl ?_); refine wpList_load_blk rfl 78 (.tmp 9) rfl g9 ?hx #[.bool x.f0, .string x.f1, .string x.f2, .slice A3' x.f3.length c3', .int .i8 x.f4, .float .f64 x.f5] 78 HS3.out _ Try.underlying78 rfl i78 ?_; (case hx => rfl)) | ((with_reducible refine gate_builtin (b := .append) (xs := #[.tmp 21, .tmp 23]) rfl ?_); at_builtin; refine OwnRow.append (w0 := w) w.heap.size rfl (.tmp 21) (.tmp 23) 36 78 (.agg #[(.bool false), (.string ⟨#[]⟩), (.string ⟨#[]⟩), (.slice none 0 0), (.int .i8 0), (.float .f64 0)]) 6 80 rfl Try.underlying36 info78 rfl (by decide) (by decide) _ L x [.bool x.f0, .string x.f1, .string x.f2, .slice A3' x.f3.length c3', .int .i8 x.f4, .float .f64 x.f5] rfl rfl HK.out rfl (k78.K_one HK.out) HR3.out HA3.out.below HA3.out.below.size HLIM.out ?_; intro v8 w8 hR8 hB8 hg8 hat8; have HR8 := Aside0.mk hR8; have HA8 := Aside0.mk (HA3.out.grown hg8 hB8 (HR3.out.ne_block HA3.out.s0 (by decide)) (HR3.out.ne_block HA3.out.s1 (by decide)) (HR3.out.ne_block HA3.out.s2 (by decide)) (HNB.out _ hlt1) (HNB.out _ hlt2)); clear hR8 hB8 hg8 hat8))
        go_roundw
        case rel => exact ⟨k + 1, by omega, by go_num, HA8, ⟨by rw [HFIL.out, if_pos rfl]; exact HR8.out⟩⟩
        case measure => simp [intOf]; omega
      | false =>
        go_wp2
        go_roundw
        case rel => exact ⟨k + 1, by omega, by go_num, HA3, ⟨by rw [HFIL.out, if_neg (by simp), List.append_nil]; exact HR3.out⟩⟩
        case measure => simp [intOf]; omega
    · have hkk : k = d.rules.length := by omega
      subst hkk
      have hfin := HRow.out
      have hle := hlo
      rw [List.take_length] at hfin hle
      obtain ⟨A5, c5', e5, h5, hreads⟩ := hfin.reads
      have hC : Kd.C k78 wr A5 (d.rules.filter fun r => speaksB r R1 R2 t1).length (d.rules.filter fun r => speaksB r R1 R2 t1) := hreads.imp_ (Below.refl _ _) (fun p c hp => k78.K_below HR.out.below hp)
      rw [List.take_length]
      have HE5 := Aside0.mk e5
      clear hfin hle hreads e5
      go_wp2
      go_ret
      exact ⟨_, rfl, A5, c5', HE5.out, h5, hC, HR.out.below⟩
end Go.Proofs.Ythaiodklfoegiaa.MPol

namespace Go.Proofs.Ythaiodklfoegiaa.PG
open Go.Proofs.YthaiodklfoegiaaF
attribute [local go_sem high] run_feq run_fne run_flt_lt run_flt_le run_flt_gt run_flt_ge
open Go.RowKit Go.Proofs.YthaiodklfoegiaaW.PrintWords Go.Proofs.YthaiodklfoegiaaW.PrintLast Go.Proofs.YthaiodklfoegiaaW.PrintMore
attribute [local go_sem] max2_int min2_int max_two min_two max_three min_three max_four min_four   -- for this text's walks alone
set_option linter.unusedVariables false
set_option linter.unusedSimpArgs false

/-! ### mean_names: function 76 -/
def mean_names.f (k : Nat) (a0_0 : Bool) (a0_1 : ByteArray) (a0_2 : ByteArray) (l0_3 : List ByteArray) (a0_4 : Int) (a0_5 : Nat) (a1 : ByteArray) : Option (Bool) := if (l0_3.length : Int) = 0 then (some true) else ((slices_Contains_string_string.f k l0_3 a1).bind fun t242 => (some t242))
theorem mean_names.mono : ∀ a0 a1 a2 a3 a4 a5 a6 k, LeO (mean_names.f k a0 a1 a2 a3 a4 a5 a6) (mean_names.f (k + 1) a0 a1 a2 a3 a4 a5 a6) := by
  intro a0 a1 a2 a3 a4 a5 a6 k
  unfold mean_names.f
  repeat' first
      | (with_reducible exact slices_Contains_string_string.mono _ _ _)
      | (with_reducible exact LeO.refl _)
      | (with_reducible exact LeO.none _)
      | (with_reducible refine LeO.ite ?_ ?_)
      | (with_reducible refine LeO.bind ?_ (fun _ => ?_))
      | exact slices_Contains_string_string.mono _ _ _
      | exact LeO.none _
      | refine LeO.ite ?_ ?_
      | refine LeO.bind ?_ (fun _ => ?_)
set_option maxHeartbeats 8000000 in
set_option maxRecDepth 100000 in
theorem mean_names.calls (k : Nat) (a0_0 : Bool) (a0_1 : ByteArray) (a0_2 : ByteArray) (A0_3 : Option Addr) (c0_3 : Nat) (l0_3 : List ByteArray) (a0_4 : Int) (a0_5 : Nat) (a1 : ByteArray) (r : Bool) (w : World) (hr0_3 : Kd.C Kd.string w A0_3 l0_3.length l0_3) (hc0_3 : l0_3.length ≤ c0_3) (h : mean_names.f k a0_0 a0_1 a0_2 l0_3 a0_4 a0_5 a1 = some r) :
    Calls Try.prog 76 #[.agg #[.bool a0_0, .string a0_1, .string a0_2, .slice A0_3 l0_3.length c0_3, .int .i8 a0_4, .float .f64 a0_5], .string a1] w fun e w' => e = .returned (.bool r) ∧ Below w.heap.size w w' := by
  have hu78 := Try.underlying78
  have HR0_3 := Aside0.mk hr0_3
  have HC0_3 := Aside0.mk hc0_3
  clear hr0_3 hc0_3
  have HB := Aside0.mk (Below.refl w.heap.size w)
  have H : (if (l0_3.length : Int) = 0 then (some true) else ((slices_Contains_string_string.f k l0_3 a1).bind fun t242 => (some t242))) = some r := h
  clear h
  by_cases c3 : (l0_3.length : Int) = 0
  · rw [if_pos c3] at H
    have c3b0 : ((l0_3.length : Int) == 0) = true := beq_iff_eq.mpr c3
    have c3b1 : ((l0_3.length : Int) != 0) = false := bne_eq_false_iff_eq.mpr c3
    clear c3
    obtain rfl := Option.some.inj H
    go_enter Try.func76, Try.ntmps76
    go_wp2_with (first | ((with_reducible refine gate_dst (N := 2) rfl ?_); refine box_event ?hg (N := 2) ?hd (cs := #[.bool a0_0, .string a0_1, .string a0_2, .slice A0_3 l0_3.length c0_3, .int .i8 a0_4, .float .f64 a0_5]) (t := 78) ?hr ?_; (case hd => rfl); (case hg => rfl); (case hr => first | (go_simp; done) | (go_simp; rfl)); intro gb241 hg w4 hbox hb; have n0_ := Aside0.mk (below_step (by repeat (first | (with_reducible first | exact HB.out | apply below_alloc | apply pw_below_drewN | apply below_drew1) | exact HB.out)) hb); have n1_ := Aside0.mk (hbox); have n2_ := Aside0.mk ((by rw [hg]; exact (below_size (by repeat (first | (with_reducible first | exact HB.out | apply below_alloc | apply pw_below_drewN | apply below_drew1) | exact HB.out))) : w.heap.size ≤ gb241)); have n3_ := Aside0.mk ((by rw [hg]; exact (below_size (by repeat (first | (with_reducible first | exact HB.out | apply below_alloc | apply pw_below_drewN | apply below_drew1) | exact HB.out))) : w.heap.size ≤ gb241)); clear HB; have HB := n0_; have BK241 := n1_; have GW241 := n2_; have GE241 := n3_; clear n0_ n1_ n2_ n3_; clear hb hbox hg; have hcz5_0 : w4.cell? ⟨gb241, 0, none⟩ = some (.bool a0_0) := (blk_cell BK241.out 0).trans rfl; have hcz5_1 : w4.cell? ⟨gb241, 1, none⟩ = some (.string a0_1) := (blk_cell BK241.out 1).trans rfl; have hcz5_2 : w4.cell? ⟨gb241, 2, none⟩ = some (.string a0_2) := (blk_cell BK241.out 2).trans rfl; have hcz5_3 : w4.cell? ⟨gb241, 3, none⟩ = some (.slice A0_3 l0_3.length c0_3) := (blk_cell BK241.out 3).trans rfl; have hcz5_4 : w4.cell? ⟨gb241, 4, none⟩ = some (.int .i8 a0_4) := (blk_cell BK241.out 4).trans rfl; have hcz5_5 : w4.cell? ⟨gb241, 5, none⟩ = some (.float .f64 a0_5) := (blk_cell BK241.out 5).trans rfl; have hfz5_0 := blk_frozen BK241.out 0; have hfz5_1 := blk_frozen BK241.out 1; have hfz5_2 := blk_frozen BK241.out 2; have hfz5_3 := blk_frozen BK241.out 3; have hfz5_4 := blk_frozen BK241.out 4; have hfz5_5 := blk_frozen BK241.out 5))
    go_ret
    exact ⟨by first | rfl | (simp [errW_none, errW_some] <;> rfl) | (simp [*, errW_none, errW_some] <;> rfl), by repeat (first | (with_reducible first | exact HB.out | apply below_alloc | apply pw_below_drewN | apply below_drew1 | refine below_set ?_ GE241.out) | exact HB.out)⟩
  · rw [if_neg c3] at H
    have c3b0 : ((l0_3.length : Int) == 0) = false := beq_eq_false_iff_ne.mpr c3
    have c3b1 : ((l0_3.length : Int) != 0) = true := bne_iff_ne.mpr c3
    have c3b2 : ¬ (l0_3 = []) := fun h_ => c3 (by rw [h_]; rfl)
    replace H := Option.bind_eq_some_iff.mp H
    obtain ⟨t242, A60, H⟩ := H
    replace H : (some t242) = some r := H
    have A6 := Aside0.mk A60
    clear A60
    obtain rfl := Option.some.inj H
    go_enter Try.func76, Try.ntmps76
    go_wp2_with (first | ((with_reducible refine gate_dst (N := 2) rfl ?_); refine box_event ?hg (N := 2) ?hd (cs := #[.bool a0_0, .string a0_1, .string a0_2, .slice A0_3 l0_3.length c0_3, .int .i8 a0_4, .float .f64 a0_5]) (t := 78) ?hr ?_; (case hd => rfl); (case hg => rfl); (case hr => first | (go_simp; done) | (go_simp; rfl)); intro gb241 hg w7 hbox hb; have n0_ := Aside0.mk (below_step (by repeat (first | (with_reducible first | exact HB.out | apply below_alloc | apply pw_below_drewN | apply below_drew1) | exact HB.out)) hb); have n1_ := Aside0.mk (hbox); have n2_ := Aside0.mk ((by rw [hg]; exact (below_size (by repeat (first | (with_reducible first | exact HB.out | apply below_alloc | apply pw_below_drewN | apply below_drew1) | exact HB.out))) : w.heap.size ≤ gb241)); have n3_ := Aside0.mk ((by rw [hg]; exact (below_size (by repeat (first | (with_reducible first | exact HB.out | apply below_alloc | apply pw_below_drewN | apply below_drew1) | exact HB.out))) : w.heap.size ≤ gb241)); clear HB; have HB := n0_; have BK241 := n1_; have GW241 := n2_; have GE241 := n3_; clear n0_ n1_ n2_ n3_; clear hb hbox hg; have hcz8_0 : w7.cell? ⟨gb241, 0, none⟩ = some (.bool a0_0) := (blk_cell BK241.out 0).trans rfl; have hcz8_1 : w7.cell? ⟨gb241, 1, none⟩ = some (.string a0_1) := (blk_cell BK241.out 1).trans rfl; have hcz8_2 : w7.cell? ⟨gb241, 2, none⟩ = some (.string a0_2) := (blk_cell BK241.out 2).trans rfl; have hcz8_3 : w7.cell? ⟨gb241, 3, none⟩ = some (.slice A0_3 l0_3.length c0_3) := (blk_cell BK241.out 3).trans rfl; have hcz8_4 : w7.cell? ⟨gb241, 4, none⟩ = some (.int .i8 a0_4) := (blk_cell BK241.out 4).trans rfl; have hcz8_5 : w7.cell? ⟨gb241, 5, none⟩ = some (.float .f64 a0_5) := (blk_cell BK241.out 5).trans rfl; have hfz8_0 := blk_frozen BK241.out 0; have hfz8_1 := blk_frozen BK241.out 1; have hfz8_2 := blk_frozen BK241.out 2; have hfz8_3 := blk_frozen BK241.out 3; have hfz8_4 := blk_frozen BK241.out 4; have hfz8_5 := blk_frozen BK241.out 5) | (go_at_call 62; (with_reducible refine (slices_Contains_string_string.calls k _ _ l0_3 a1 t242 _ ?side1 ?side2 A6.out).mono ?_); (case side1 => repeat (first | exact (Kd.C_below HR0_3.out HB.out) | (with_reducible refine Kd.C_alloc ?_ _) | (with_reducible refine Kd.C_drewN ?_ _) | (with_reducible refine Kd.C_drew ?_))); (case side2 => exact HC0_3.out); rintro e w' ⟨rfl, ⟨nd, rfl⟩⟩))
    go_ret
    exact ⟨by first | rfl | (simp [errW_none, errW_some] <;> rfl) | (simp [*, errW_none, errW_some] <;> rfl), by repeat (first | (with_reducible first | exact HB.out | apply below_alloc | apply pw_below_drewN | apply below_drew1 | refine below_set ?_ GE241.out) | exact HB.out)⟩

end Go.Proofs.Ythaiodklfoegiaa.PG

namespace Go.Proofs.Ythaiodklfoegiaa.PG
open Go.Proofs.YthaiodklfoegiaaF
attribute [local go_sem high] run_feq run_fne run_flt_lt run_flt_le run_flt_gt run_flt_ge
open Go.RowKit Go.Proofs.YthaiodklfoegiaaW.PrintWords Go.Proofs.YthaiodklfoegiaaW.PrintLast Go.Proofs.YthaiodklfoegiaaW.PrintMore
attribute [local go_sem] max2_int min2_int max_two min_two max_three min_three max_four min_four   -- for this text's walks alone
set_option linter.unusedVariables false
set_option linter.unusedSimpArgs false

theorem eqA28 (d : Nat) (w : World) (x0 y0 : ByteArray) (x1 y1 : ByteArray) (x2 y2 : ByteArray) :
    (Op.equalIn (d + 2) 28 (.agg #[.string x0, .string x1, .string x2]) (.agg #[.string y0, .string y1, .string y2])).run Try.prog w = .ok (x0.toList == y0.toList && (x1.toList == y1.toList && (x2.toList == y2.toList))) w := by
  refine eqA_of Try.underlying28 (by kernel_rfl) ?_
  refine eqf_cons (by rfl) (by go_simp; rfl) (by go_simp; rfl) (by go_simp) ?_
  refine eqf_cons (by rfl) (by go_simp; rfl) (by go_simp; rfl) (by go_simp) ?_
  exact eqf_last (by rfl) (by go_simp; rfl) (by go_simp; rfl) (by go_simp)
end Go.Proofs.Ythaiodklfoegiaa.PG

namespace Go.Proofs.Ythaiodklfoegiaa.PG
open Go.Proofs.YthaiodklfoegiaaF
attribute [local go_sem high] run_feq run_fne run_flt_lt run_flt_le run_flt_gt run_flt_ge
open Go.RowKit Go.Proofs.YthaiodklfoegiaaW.PrintWords Go.Proofs.YthaiodklfoegiaaW.PrintLast Go.Proofs.YthaiodklfoegiaaW.PrintMore
attribute [local go_sem] max2_int min2_int max_two min_two max_three min_three max_four min_four   -- for this text's walks alone
set_option linter.unusedVariables false
set_option linter.unusedSimpArgs false

attribute [local go_sem high] eqA28
/-! ### api_Triple_84: function 84 -/
def api_Triple_84.l0 : Nat → List (S28) → Int → Int → ByteArray → ByteArray → ByteArray → Option (Int)
  | 0, _, _, _, _, _, _ => none
  | k + 1, x0, x7, x8, x244000, x244001, x244002 => if x8 < x7 then (if 0 ≤ x8 then (if x8 < (x0.length : Int) then (if (x244000.toList == (((rd_T28 x0 x8).f0).toList) && (x244001.toList == (((rd_T28 x0 x8).f1).toList) && (x244002.toList == (((rd_T28 x0 x8).f2).toList)))) = true then (some x8) else (api_Triple_84.l0 k x0 x7 (wrap64 (x8 + 1)) x244000 x244001 x244002)) else (none)) else (none)) else (some (-1))
def api_Triple_84.f (k : Nat) (l0 : List (S28)) (a1_0 : ByteArray) (a1_1 : ByteArray) (a1_2 : ByteArray) : Option (Int) := api_Triple_84.l0 k l0 (l0.length : Int) 0 a1_0 a1_1 a1_2
theorem api_Triple_84.mono_l : ∀ k, (∀ y0 y1 y2 y3 y4 y5, LeO (api_Triple_84.l0 k y0 y1 y2 y3 y4 y5) (api_Triple_84.l0 (k + 1) y0 y1 y2 y3 y4 y5))
  | 0 => fun _ _ _ _ _ _ r h => by simp [api_Triple_84.l0] at h
  | k + 1 => by
    have ih0 := api_Triple_84.mono_l k
    · intro y0 y1 y2 y3 y4 y5
      unfold api_Triple_84.l0
      repeat' first
      | (with_reducible exact ih0 _ _ _ _ _ _)
      | (with_reducible exact LeO.refl _)
      | (with_reducible exact LeO.none _)
      | (with_reducible refine LeO.ite ?_ ?_)
      | (with_reducible refine LeO.bind ?_ (fun _ => ?_))
      | exact ih0 _ _ _ _ _ _
      | exact LeO.none _
      | refine LeO.ite ?_ ?_
      | refine LeO.bind ?_ (fun _ => ?_)
theorem api_Triple_84.mono : ∀ a0 a1 a2 a3 k, LeO (api_Triple_84.f k a0 a1 a2 a3) (api_Triple_84.f (k + 1) a0 a1 a2 a3) := by
  intro a0 a1 a2 a3 k
  have ih0 := api_Triple_84.mono_l k
  unfold api_Triple_84.f
  repeat' first
      | (with_reducible exact ih0 _ _ _ _ _ _)
      | (with_reducible exact LeO.refl _)
      | (with_reducible exact LeO.none _)
      | (with_reducible refine LeO.ite ?_ ?_)
      | (with_reducible refine LeO.bind ?_ (fun _ => ?_))
      | exact ih0 _ _ _ _ _ _
      | exact LeO.none _
      | refine LeO.ite ?_ ?_
      | refine LeO.bind ?_ (fun _ => ?_)
set_option maxHeartbeats 8000000 in
set_option maxRecDepth 100000 in
theorem api_Triple_84.calls (k : Nat) (A0 : Option Addr) (c0 : Nat) (l0 : List (S28)) (a1_0 : ByteArray) (a1_1 : ByteArray) (a1_2 : ByteArray) (r : Int) (w : World) (hr0 : Kd.C k28 w A0 l0.length l0) (hc0 : l0.length ≤ c0) (h : api_Triple_84.f k l0 a1_0 a1_1 a1_2 = some r) :
    Calls Try.prog 84 #[.slice A0 l0.length c0, .agg #[.string a1_0, .string a1_1, .string a1_2]] w fun e w' => e = .returned (.int .i64 r) ∧ Below w.heap.size w w' := by
  have hu28 := Try.underlying28
  have HR0 := Aside0.mk hr0
  have HC0 := Aside0.mk hc0
  clear hr0 hc0
  have HB := Aside0.mk (Below.refl w.heap.size w)
  have H : (api_Triple_84.l0 k l0 (l0.length : Int) 0 a1_0 a1_1 a1_2) = some r := h
  clear h
  have H' := Aside0.mk H
  clear H
  go_enter Try.func84, Try.ntmps84
  go_wp2_with (first | ((with_reducible refine gate_dst (N := 3) rfl ?_); refine box_event ?hg (N := 3) ?hd (cs := #[.string a1_0, .string a1_1, .string a1_2]) (t := 28) ?hr ?_; (case hd => rfl); (case hg => rfl); (case hr => first | (go_simp; done) | (go_simp; rfl)); intro gb243 hg w3 hbox hb; have n0_ := Aside0.mk (below_step (by repeat (first | (with_reducible first | exact HB.out | apply below_alloc | apply pw_below_drewN | apply below_drew1) | exact HB.out)) hb); have n1_ := Aside0.mk (hbox); have n2_ := Aside0.mk ((by rw [hg]; exact (below_size (by repeat (first | (with_reducible first | exact HB.out | apply below_alloc | apply pw_below_drewN | apply below_drew1) | exact HB.out))) : w.heap.size ≤ gb243)); have n3_ := Aside0.mk ((by rw [hg]; exact (below_size (by repeat (first | (with_reducible first | exact HB.out | apply below_alloc | apply pw_below_drewN | apply below_drew1) | exact HB.out))) : w.heap.size ≤ gb243)); clear HB; have HB := n0_; have BK243 := n1_; have GW243 := n2_; have GE243 := n3_; clear n0_ n1_ n2_ n3_; clear hb hbox hg))
  repeat (go_quiet (first | ((with_reducible refine gate_dst (N := 3) rfl ?_); refine box_event ?hg (N := 3) ?hd (cs := #[.string a1_0, .string a1_1, .string a1_2]) (t := 28) ?hr ?_; (case hd => rfl); (case hg => rfl); (case hr => first | (go_simp; done) | (go_simp; rfl)); intro gb243 hg w3 hbox hb; have n0_ := Aside0.mk (below_step (by repeat (first | (with_reducible first | exact HB.out | apply below_alloc | apply pw_below_drewN | apply below_drew1) | exact HB.out)) hb); have n1_ := Aside0.mk (hbox); have n2_ := Aside0.mk ((by rw [hg]; exact (below_size (by repeat (first | (with_reducible first | exact HB.out | apply below_alloc | apply pw_below_drewN | apply below_drew1) | exact HB.out))) : w.heap.size ≤ gb243)); have n3_ := Aside0.mk ((by rw [hg]; exact (below_size (by repeat (first | (with_reducible first | exact HB.out | apply below_alloc | apply pw_below_drewN | apply below_drew1) | exact HB.out))) : w.heap.size ≤ gb243)); clear HB; have HB := n0_; have BK243 := n1_; have GW243 := n2_; have GE243 := n3_; clear n0_ n1_ n2_ n3_; clear hb hbox hg)); try go_wp2_with (first | ((with_reducible refine gate_dst (N := 3) rfl ?_); refine box_event ?hg (N := 3) ?hd (cs := #[.string a1_0, .string a1_1, .string a1_2]) (t := 28) ?hr ?_; (case hd => rfl); (case hg => rfl); (case hr => first | (go_simp; done) | (go_simp; rfl)); intro gb243 hg w3 hbox hb; have n0_ := Aside0.mk (below_step (by repeat (first | (with_reducible first | exact HB.out | apply below_alloc | apply pw_below_drewN | apply below_drew1) | exact HB.out)) hb); have n1_ := Aside0.mk (hbox); have n2_ := Aside0.mk ((by rw [hg]; exact (below_size (by repeat (first | (with_reducible first | exact HB.out | apply below_alloc | apply pw_below_drewN | apply below_drew1) | exact HB.out))) : w.heap.size ≤ gb243)); have n3_ := Aside0.mk ((by rw [hg]; exact (below_size (by repeat (first | (with_reducible first | exact HB.out | apply below_alloc | apply pw_below_drewN | apply below_drew1) | exact HB.out))) : w.heap.size ≤ gb243)); clear HB; have HB := n0_; have BK243 := n1_; have GW243 := n2_; have GE243 := n3_; clear n0_ n1_ n2_ n3_; clear hb hbox hg)))
  go_loopg [8] k (fun kq v8 w' => ∃ (x8_1 : Int), v8 = .int .i64 x8_1 ∧ Aside0 (api_Triple_84.l0 kq l0 (l0.length : Int) x8_1 a1_0 a1_1 a1_2 = some r) ∧ Aside0 (kq ≤ k) ∧ Aside0 (w'.heap[gb243]? = some (.cells #[.string a1_0, .string a1_1, .string a1_2] 28 (0, 0))) ∧ Aside0 (Below w.heap.size w w'))
  case atStart => exact ⟨(0), (by first | rfl | (simp; done) | (simp [*]; done)), H', ⟨Nat.le_refl _⟩, ⟨by (with_reducible repeat (first | refine blk_drewN ?_ _ | refine blk_drew ?_ | refine blk_alloc ?_ _)); exact BK243.out⟩, ⟨by repeat (first | (with_reducible first | exact HB.out | apply below_alloc | apply pw_below_drewN | apply below_drew1 | refine below_set ?_ GE243.out) | exact HB.out)⟩⟩
  case round =>
    clear H'
    try clear p2
    obtain ⟨x8_1, rfl, HA, HK1, BK243, HB⟩ := hrel
    cases gk with
    | zero => exact absurd HA.out (by simp [api_Triple_84.l0])
    | succ k1 =>
      have H := HA.out
      clear HA
      simp only [api_Triple_84.l0] at H
      by_cases c4 : x8_1 < (l0.length : Int)
      · rw [if_pos c4] at H
        have c4b0 : decide (x8_1 < (l0.length : Int)) = true := decide_eq_true c4
        clear c4
        by_cases c5 : 0 ≤ x8_1
        · rw [if_pos c5] at H
          have c5b0 : decide (0 ≤ x8_1) = true := decide_eq_true c5
          clear c5
          by_cases c6 : x8_1 < (l0.length : Int)
          · rw [if_pos c6] at H
            have c6b0 : decide (x8_1 < (l0.length : Int)) = true := decide_eq_true c6
            clear c6
            by_cases c7 : (a1_0.toList == (((rd_T28 l0 x8_1).f0).toList) && (a1_1.toList == (((rd_T28 l0 x8_1).f1).toList) && (a1_2.toList == (((rd_T28 l0 x8_1).f2).toList)))) = true
            · rw [if_pos c7] at H
              have c7b0 : (a1_0.toList == (((rd_T28 l0 x8_1).f0).toList) && (a1_1.toList == (((rd_T28 l0 x8_1).f1).toList) && (a1_2.toList == (((rd_T28 l0 x8_1).f2).toList)))) = true := c7
              (try (have c7b1 : decide (a1_0.toList = (((rd_T28 l0 x8_1).f0).toList) && (a1_1.toList == (((rd_T28 l0 x8_1).f1).toList) && (a1_2.toList == (((rd_T28 l0 x8_1).f2).toList)))) = true := by simpa using c7))
              (try (have c7b2 : (a1_0.toList == (((rd_T28 l0 x8_1).f0).toList) && (a1_1.toList == (((rd_T28 l0 x8_1).f1).toList) && (a1_2.toList == (((rd_T28 l0 x8_1).f2).toList)))) = true := by simpa using c7))
              clear c7
              obtain rfl := Option.some.inj H
              have hcz8_0 : wr.cell? ⟨gb243, 0, none⟩ = some (.string a1_0) := (blk_cell BK243.out 0).trans rfl
              have hcz8_1 : wr.cell? ⟨gb243, 1, none⟩ = some (.string a1_1) := (blk_cell BK243.out 1).trans rfl
              have hcz8_2 : wr.cell? ⟨gb243, 2, none⟩ = some (.string a1_2) := (blk_cell BK243.out 2).trans rfl
              have hfz8_0 := blk_frozen BK243.out 0
              have hfz8_1 := blk_frozen BK243.out 1
              have hfz8_2 := blk_frozen BK243.out 2
              have p244 : 0 ≤ (x8_1 : Int) := of_decide_eq_true (by first | (with_reducible assumption) | assumption)
              have q244 : x8_1 < (l0.length : Int) := of_decide_eq_true (by first | (with_reducible assumption) | assumption)
              obtain ⟨ad244, e244, hx244_0, hx244_1, hx244_2⟩ := at_T28 HR0.out x8_1 p244 q244
              cases e244
              replace hx244_0 := (HB.out.cell (World.block_lt_of_cell? w _ hx244_0)).trans hx244_0
              replace hx244_1 := (HB.out.cell (World.block_lt_of_cell? w _ hx244_1)).trans hx244_1
              replace hx244_2 := (HB.out.cell (World.block_lt_of_cell? w _ hx244_2)).trans hx244_2
              replace p244 := eq_true p244
              replace q244 := eq_true q244
              go_wp2
              repeat (go_quiet (fail); try go_wp2)
              go_ret
              exact ⟨by first | rfl | (simp [errW_none, errW_some] <;> rfl) | (simp [*, errW_none, errW_some] <;> rfl), by repeat (first | (with_reducible first | exact HB.out | apply below_alloc | apply pw_below_drewN | apply below_drew1 | refine below_set ?_ GE243.out) | exact HB.out)⟩
            · rw [if_neg c7] at H
              have c7b0 : (a1_0.toList == (((rd_T28 l0 x8_1).f0).toList) && (a1_1.toList == (((rd_T28 l0 x8_1).f1).toList) && (a1_2.toList == (((rd_T28 l0 x8_1).f2).toList)))) = false := by simpa using c7
              (try (have c7b1 : decide (a1_0.toList = (((rd_T28 l0 x8_1).f0).toList) && (a1_1.toList == (((rd_T28 l0 x8_1).f1).toList) && (a1_2.toList == (((rd_T28 l0 x8_1).f2).toList)))) = false := by simpa using c7))
              (try (have c7b2 : (a1_0.toList == (((rd_T28 l0 x8_1).f0).toList) && (a1_1.toList == (((rd_T28 l0 x8_1).f1).toList) && (a1_2.toList == (((rd_T28 l0 x8_1).f2).toList)))) = false := by simpa using c7))
              (try (have c7b3 : ¬ (a1_0.toList = (((rd_T28 l0 x8_1).f0).toList) && (a1_1.toList == (((rd_T28 l0 x8_1).f1).toList) && (a1_2.toList == (((rd_T28 l0 x8_1).f2).toList)))) := by simpa using c7))
              clear c7
              have H' := Aside0.mk H
              clear H
              have hcz9_0 : wr.cell? ⟨gb243, 0, none⟩ = some (.string a1_0) := (blk_cell BK243.out 0).trans rfl
              have hcz9_1 : wr.cell? ⟨gb243, 1, none⟩ = some (.string a1_1) := (blk_cell BK243.out 1).trans rfl
              have hcz9_2 : wr.cell? ⟨gb243, 2, none⟩ = some (.string a1_2) := (blk_cell BK243.out 2).trans rfl
              have hfz9_0 := blk_frozen BK243.out 0
              have hfz9_1 := blk_frozen BK243.out 1
              have hfz9_2 := blk_frozen BK243.out 2
              have p244 : 0 ≤ (x8_1 : Int) := of_decide_eq_true (by first | (with_reducible assumption) | assumption)
              have q244 : x8_1 < (l0.length : Int) := of_decide_eq_true (by first | (with_reducible assumption) | assumption)
              obtain ⟨ad244, e244, hx244_0, hx244_1, hx244_2⟩ := at_T28 HR0.out x8_1 p244 q244
              cases e244
              replace hx244_0 := (HB.out.cell (World.block_lt_of_cell? w _ hx244_0)).trans hx244_0
              replace hx244_1 := (HB.out.cell (World.block_lt_of_cell? w _ hx244_1)).trans hx244_1
              replace hx244_2 := (HB.out.cell (World.block_lt_of_cell? w _ hx244_2)).trans hx244_2
              replace p244 := eq_true p244
              replace q244 := eq_true q244
              go_wp2
              repeat (go_quiet (fail); try go_wp2)
              go_roundg k1
              case measure => have := HK1.out; omega
              case rel => exact ⟨(wrap64 (x8_1 + 1)), (by first | rfl | (simp; done) | (simp [*]; done)), H', ⟨by have := HK1.out; omega⟩, ⟨by (with_reducible repeat (first | refine blk_drewN ?_ _ | refine blk_drew ?_ | refine blk_alloc ?_ _)); exact BK243.out⟩, ⟨by repeat (first | (with_reducible first | exact HB.out | apply below_alloc | apply pw_below_drewN | apply below_drew1 | refine below_set ?_ GE243.out) | exact HB.out)⟩⟩
          · rw [if_neg c6] at H
            exact absurd H (by simp)
        · rw [if_neg c5] at H
          exact absurd H (by simp)
      · rw [if_neg c4] at H
        have c4b0 : decide (x8_1 < (l0.length : Int)) = false := decide_eq_false c4
        clear c4
        obtain rfl := Option.some.inj H
        go_wp2
        repeat (go_quiet (fail); try go_wp2)
        go_ret
        exact ⟨by first | rfl | (simp [errW_none, errW_some] <;> rfl) | (simp [*, errW_none, errW_some] <;> rfl), by repeat (first | (with_reducible first | exact HB.out | apply below_alloc | apply pw_below_drewN | apply below_drew1 | refine below_set ?_ GE243.out) | exact HB.out)⟩

end Go.Proofs.Ythaiodklfoegiaa.PG

namespace Go.Proofs.Ythaiodklfoegiaa.PG
open Go.Proofs.YthaiodklfoegiaaF
attribute [local go_sem high] run_feq run_fne run_flt_lt run_flt_le run_flt_gt run_flt_ge
open Go.RowKit Go.Proofs.YthaiodklfoegiaaW.PrintWords Go.Proofs.YthaiodklfoegiaaW.PrintLast Go.Proofs.YthaiodklfoegiaaW.PrintMore
attribute [local go_sem] max2_int min2_int max_two min_two max_three min_three max_four min_four   -- for this text's walks alone
set_option linter.unusedVariables false
set_option linter.unusedSimpArgs false

/-! ### api_Triple_77: function 77 -/
def api_Triple_77.f (k : Nat) (l0 : List (S28)) (a1_0 : ByteArray) (a1_1 : ByteArray) (a1_2 : ByteArray) : Option (Bool) := (api_Triple_84.f k l0 a1_0 a1_1 a1_2).bind fun t246 => (some (decide (t246 ≥ 0)))
theorem api_Triple_77.mono : ∀ a0 a1 a2 a3 k, LeO (api_Triple_77.f k a0 a1 a2 a3) (api_Triple_77.f (k + 1) a0 a1 a2 a3) := by
  intro a0 a1 a2 a3 k
  unfold api_Triple_77.f
  repeat' first
      | (with_reducible exact api_Triple_84.mono _ _ _ _ _)
      | (with_reducible exact LeO.refl _)
      | (with_reducible exact LeO.none _)
      | (with_reducible refine LeO.ite ?_ ?_)
      | (with_reducible refine LeO.bind ?_ (fun _ => ?_))
      | exact api_Triple_84.mono _ _ _ _ _
      | exact LeO.none _
      | refine LeO.ite ?_ ?_
      | refine LeO.bind ?_ (fun _ => ?_)
set_option maxHeartbeats 8000000 in
set_option maxRecDepth 100000 in
theorem api_Triple_77.calls (k : Nat) (A0 : Option Addr) (c0 : Nat) (l0 : List (S28)) (a1_0 : ByteArray) (a1_1 : ByteArray) (a1_2 : ByteArray) (r : Bool) (w : World) (hr0 : Kd.C k28 w A0 l0.length l0) (hc0 : l0.length ≤ c0) (h : api_Triple_77.f k l0 a1_0 a1_1 a1_2 = some r) :
    Calls Try.prog 77 #[.slice A0 l0.length c0, .agg #[.string a1_0, .string a1_1, .string a1_2]] w fun e w' => e = .returned (.bool r) ∧ Below w.heap.size w w' := by
  have hu28 := Try.underlying28
  have HR0 := Aside0.mk hr0
  have HC0 := Aside0.mk hc0
  clear hr0 hc0
  have HB := Aside0.mk (Below.refl w.heap.size w)
  have H : ((api_Triple_84.f k l0 a1_0 a1_1 a1_2).bind fun t246 => (some (decide (t246 ≥ 0)))) = some r := h
  clear h
  replace H := Option.bind_eq_some_iff.mp H
  obtain ⟨t246, A30, H⟩ := H
  replace H : (some (decide (t246 ≥ 0))) = some r := H
  have A3 := Aside0.mk A30
  clear A30
  obtain rfl := Option.some.inj H
  go_enter Try.func77, Try.ntmps77
  go_wp2_with (first | ((with_reducible refine gate_dst (N := 3) rfl ?_); refine box_event ?hg (N := 3) ?hd (cs := #[.string a1_0, .string a1_1, .string a1_2]) (t := 28) ?hr ?_; (case hd => rfl); (case hg => rfl); (case hr => first | (go_simp; done) | (go_simp; rfl)); intro gb245 hg w4 hbox hb; have n0_ := Aside0.mk (below_step (by repeat (first | (with_reducible first | exact HB.out | apply below_alloc | apply pw_below_drewN | apply below_drew1) | exact HB.out)) hb); have n1_ := Aside0.mk (hbox); have n2_ := Aside0.mk ((by rw [hg]; exact (below_size (by repeat (first | (with_reducible first | exact HB.out | apply below_alloc | apply pw_below_drewN | apply below_drew1) | exact HB.out))) : w.heap.size ≤ gb245)); have n3_ := Aside0.mk ((by rw [hg]; exact (below_size (by repeat (first | (with_reducible first | exact HB.out | apply below_alloc | apply pw_below_drewN | apply below_drew1) | exact HB.out))) : w.heap.size ≤ gb245)); clear HB; have HB := n0_; have BK245 := n1_; have GW245 := n2_; have GE245 := n3_; clear n0_ n1_ n2_ n3_; clear hb hbox hg; have hcz5_0 : w4.cell? ⟨gb245, 0, none⟩ = some (.string a1_0) := (blk_cell BK245.out 0).trans rfl; have hcz5_1 : w4.cell? ⟨gb245, 1, none⟩ = some (.string a1_1) := (blk_cell BK245.out 1).trans rfl; have hcz5_2 : w4.cell? ⟨gb245, 2, none⟩ = some (.string a1_2) := (blk_cell BK245.out 2).trans rfl; have hfz5_0 := blk_frozen BK245.out 0; have hfz5_1 := blk_frozen BK245.out 1; have hfz5_2 := blk_frozen BK245.out 2) | ((with_reducible refine gate_callee (f := 84) rfl ?_); refine goesL_ (some 7) rfl rfl Try.func84 (by kernel_rfl) rfl #[.slice A0 l0.length c0, .agg #[.string a1_0, .string a1_1, .string a1_2]] rfl (by (try simp only [List.map_toArray, List.map_cons, List.map_nil]); first | done | rfl | (simp only [List.length_drop, List.length_take]; rfl)) ?_; (with_reducible refine (api_Triple_84.calls k _ _ l0 a1_0 a1_1 a1_2 t246 _ ?side1 ?side2 A3.out).mono ?_); (case side1 => repeat (first | exact (Kd.C_below HR0.out HB.out) | (with_reducible refine Kd.C_alloc ?_ _) | (with_reducible refine Kd.C_drewN ?_ _) | (with_reducible refine Kd.C_drew ?_))); (case side2 => exact HC0.out); rintro e w6 ⟨rfl, hb⟩; refine ⟨_, rfl, ?_⟩; have n0_ := Aside0.mk (blk_below (g := gb245) (o := .cells #[.string a1_0, .string a1_1, .string a1_2] 28 (0, 0)) (by (with_reducible repeat (first | refine blk_drewN ?_ _ | refine blk_drew ?_ | refine blk_alloc ?_ _)); exact BK245.out) hb); have n1_ := Aside0.mk (below_step (by repeat (first | (with_reducible first | exact HB.out | apply below_alloc | apply pw_below_drewN | apply below_drew1 | refine below_set ?_ GE245.out) | exact HB.out)) hb); clear BK245; clear HB; have BK245 := n0_; have HB := n1_; clear n0_ n1_; (try clear hb); (try clear hb2); (try clear hk); (try clear hi)))
  go_ret
  exact ⟨by first | rfl | (simp [errW_none, errW_some] <;> rfl) | (simp [*, errW_none, errW_some] <;> rfl), by repeat (first | (with_reducible first | exact HB.out | apply below_alloc | apply pw_below_drewN | apply below_drew1 | refine below_set ?_ GE245.out) | exact HB.out)⟩

end Go.Proofs.Ythaiodklfoegiaa.PG

/- mean.allows, in plain words. -/
namespace Go.Proofs.Ythaiodklfoegiaa.MPol
open Go.RowKit Go.Proofs.YthaiodklfoegiaaW.PrintWords Go.Proofs.YthaiodklfoegiaaW.PrintLast Go.Proofs.YthaiodklfoegiaaW.PrintMore Go.Proofs.Ythaiodklfoegiaa.MLines Go.Proofs.Ythaiodklfoegiaa.MSide
open Go.Proofs.Ythaiodklfoegiaa Go.Proofs.Ythaiodklfoegiaa.PG Go.Proofs.YthaiodklfoegiaaF

theorem beq_str (a b : ByteArray) : (a.toList == b.toList) = decide (a = b) := by
  rw [Bool.eq_iff_iff, decide_eq_true_iff, beq_iff_eq, ByteArray.toList_eq, ByteArray.toList_eq]
  exact ⟨fun h => ByteArray.ext (Array.toList_inj.mp h), fun h => by rw [h]⟩
/-- Names a rule an action? -/
def namesP (r : S78) (a : ByteArray) : Prop := r.f3 = [] ∨ a ∈ r.f3
/-- Do rules allow an action? -/
def mayP (rules : List S78) (a : ByteArray) : Prop := (∃ r ∈ rules, namesP r a) ∧ ∀ r ∈ rules, namesP r a → r.f0 = false
open Classical in
noncomputable def allowsF (rules : List S78) (exc : List S28) (t : S28) : Bool := decide (mayP rules t.f2 ∧ t ∉ exc)

theorem names_f (r : S78) (a : ByteArray) (hl : r.f3.length ≤ 9223372036854775807) : ∃ b, Ev (fun k => mean_names.f k r.f0 r.f1 r.f2 r.f3 r.f4 r.f5 a) b ∧ (b = true ↔ namesP r a) := by
  unfold mean_names.f namesP
  by_cases h : r.f3 = []
  · rw [h]
    exact ⟨true, Ev.congr (f := fun _ => some true) (fun k => by simp) (Ev.now _), by simp⟩
  · have hne : ¬ ((r.f3.length : Int) = 0) := by
      intro e
      exact h (List.eq_nil_of_length_eq_zero (by omega))
    refine ⟨_, Ev.congr (f := fun k => (slices_Contains_string_string.f k r.f3 a).bind fun t => some t) (fun k => by rw [if_neg hne]) (Ev.bind (f := fun _ t => some t) (VPure.contains_f r.f3 a hl) (Ev.now _)), ?_⟩
    rw [decide_eq_true_iff, mem_nm]
    simp [h]
theorem triple_l0 (l : List S28) (t : S28) (hl : l.length ≤ 9223372036854775807) : ∀ (d n : Nat), n + d = l.length → ∃ i : Int, Ev (fun k => api_Triple_84.l0 k l l.length n t.f0 t.f1 t.f2) i ∧ (0 ≤ i ↔ t ∈ l.drop n)
  | 0, n, h => by
    rw [List.drop_eq_nil_of_le (by omega)]
    refine ⟨-1, Ev.step (f := fun _ => some (-1)) (fun k => ?_) (Ev.now _), by simp⟩
    simp only [api_Triple_84.l0]
    rw [if_neg (by omega)]
  | d + 1, n, h => by
    have hlt : n < l.length := by omega
    have hrd : rd_T28 l (n : Int) = l[n] := by simp [rd_T28, hlt]
    have hdr : l.drop n = l[n] :: l.drop (n + 1) := List.drop_eq_getElem_cons hlt
    by_cases he : t = l[n]
    · refine ⟨n, Ev.step (f := fun _ => some (n : Int)) (fun k => ?_) (Ev.now _), by rw [hdr, he]; exact ⟨fun _ => List.mem_cons_self, fun _ => by omega⟩⟩
      simp only [api_Triple_84.l0]
      rw [if_pos (by omega), if_pos (by omega), if_pos (by omega), hrd, if_pos (by rw [← he]; simp)]
    · obtain ⟨i, h1, h2⟩ := triple_l0 l t hl d (n + 1) (by omega)
      refine ⟨i, Ev.step (fun k => ?_) h1, by rw [h2, hdr, List.mem_cons]; simp [he]⟩
      have hne : ¬ ((t.f0.toList == l[n].f0.toList && (t.f1.toList == l[n].f1.toList && (t.f2.toList == l[n].f2.toList))) = true) := by
        rw [beq_str, beq_str, beq_str]
        simp only [Bool.and_eq_true, decide_eq_true_eq]
        rintro ⟨a, b, c⟩
        refine he ?_
        cases t; cases hx : l[n]; rw [hx] at a b c; simp only at a b c; subst a; subst b; subst c; rfl
      simp only [api_Triple_84.l0]
      rw [if_pos (by omega), if_pos (by omega), if_pos (by omega), hrd, if_neg hne, Go.Proofs.Ythaiodklfoegiaa.VPure.w64n hlt hl]
theorem excepted_f (l : List S28) (t : S28) (hl : l.length ≤ 9223372036854775807) : ∃ b, Ev (fun k => api_Triple_77.f k l t.f0 t.f1 t.f2) b ∧ (b = true ↔ t ∈ l) := by
  obtain ⟨i, h1, h2⟩ := triple_l0 l t hl l.length 0 (by omega)
  rw [List.drop_zero] at h2
  exact ⟨_, Ev.bind (f := fun _ t => some (decide (t ≥ 0))) h1 (Ev.now _), by rw [decide_eq_true_iff]; exact h2⟩

theorem bool_is {b q : Bool} {p : Prop} [Decidable p] (h : b = true ↔ p) (hq : decide p = q) : b = q := by
  subst hq
  rw [Bool.eq_iff_iff, decide_eq_true_iff]
  exact h
open Classical in
theorem names_go (r : S78) (A3 : Option Addr) (c3 : Nat) (a : ByteArray) (w : World) (q : Bool) (hq : decide (namesP r a) = q) (h : Kd.C Kd.string w A3 r.f3.length r.f3) (hc : r.f3.length ≤ c3) :
    Calls Try.prog 76 #[.agg (ruleV r A3 c3), .string a] w fun e w' => e = .returned (.bool q) ∧ Below w.heap.size w w' := by
  obtain ⟨b, h1, h2⟩ := names_f r a h.2.1
  obtain rfl := bool_is h2 hq
  obtain ⟨k, hk⟩ := h1.rounds
  exact mean_names.calls k r.f0 r.f1 r.f2 A3 c3 r.f3 r.f4 r.f5 a _ w h hc hk
open Classical in
theorem excepted_go (A : Option Addr) (c : Nat) (l : List S28) (t : S28) (w : World) (q : Bool) (hq : decide (t ∈ l) = q) (h : Kd.C k28 w A l.length l) (hc : l.length ≤ c) :
    Calls Try.prog 77 #[.slice A l.length c, .agg #[.string t.f0, .string t.f1, .string t.f2]] w fun e w' => e = .returned (.bool q) ∧ Below w.heap.size w w' := by
  obtain ⟨b, h1, h2⟩ := excepted_f l t h.2.1
  obtain rfl := bool_is h2 hq
  obtain ⟨k, hk⟩ := h1.rounds
  exact api_Triple_77.calls k A c l t.f0 t.f1 t.f2 _ w h hc hk
end Go.Proofs.Ythaiodklfoegiaa.MPol

/- mean.allows. -/
namespace Go.Proofs.Ythaiodklfoegiaa.MPol
open Go.RowKit Go.Proofs.YthaiodklfoegiaaW.PrintWords Go.Proofs.YthaiodklfoegiaaW.PrintLast Go.Proofs.YthaiodklfoegiaaW.PrintMore Go.Proofs.Ythaiodklfoegiaa.BMap Go.Proofs.Ythaiodklfoegiaa.BRow Go.Proofs.Ythaiodklfoegiaa.MLines Go.Proofs.Ythaiodklfoegiaa.MPut Go.Proofs.Ythaiodklfoegiaa.MClose Go.Proofs.Ythaiodklfoegiaa.MConcat Go.Proofs.Ythaiodklfoegiaa.MStand Go.Proofs.Ythaiodklfoegiaa.MSide Go.Maps
open Go.Proofs.Ythaiodklfoegiaa Go.Proofs.Ythaiodklfoegiaa.PG Go.Proofs.YthaiodklfoegiaaF

def tripV (t : S28) : Array Value := #[.string t.f0, .string t.f1, .string t.f2]
/-- allows' variables. -/
structure Alw (p : Pol) (w W : World) (t : S28) : Prop where
  below : Below w.heap.size w W
  s0 : Stays W w.heap.size p.cells 39
  s1 : Stays W (w.heap.size + 1) (tripV t) 28
theorem Alw.move {p : Pol} {w W W1 : World} {t : S28} (h : Alw p w W t) (hb : Below W.heap.size W W1) : Alw p w W1 t := ⟨below_then h.below h.below.size hb, h.s0.below hb, h.s1.below hb⟩
theorem Alw.start (p : Pol) (w : World) (t : S28) : Alw p w ((w.alloc (.cells p.cells 39)).alloc (.cells (tripV t) 28)) t := by
  have hb1 : Below w.heap.size w (w.alloc (.cells p.cells 39)) := below_alloc (Below.refl _ _) _
  have e1 := heap_alloc_new (w.alloc (.cells p.cells 39)) (.cells (tripV t) 28)
  rw [World.size_alloc] at e1
  exact ⟨below_alloc hb1 _, (Below.heap_alloc _ _ _ (by simp only [World.size_alloc]; omega)).trans (heap_alloc_new w _), e1⟩
open Classical in
theorem allowsF_iff (rules : List S78) (exc : List S28) (t : S28) : allowsF rules exc t = true ↔ mayP rules t.f2 ∧ t ∉ exc := by unfold allowsF; exact decide_eq_true_iff
theorem i28 : (Try.prog.info? 28).map (·.size) = some 3 := by kernel_rfl
theorem i4 : (Try.prog.info? 4).map (·.size) = some 1 := by kernel_rfl

open Classical in
set_option maxHeartbeats 1000000 in
set_option maxRecDepth 100000 in
theorem allows_calls (p : Pol) (A : Option Addr) (c : Nat) (l1 : List S78) (t : S28) (w : World) (hC : Kd.C k78 w A l1.length l1) (hE : Kd.C k28 w p.A10 p.d.exc.length p.d.exc) (hc : p.d.exc.length ≤ p.c10) (q : Bool) (hq : allowsF l1 p.d.exc t = q) :
    Calls Try.prog 63 #[.agg p.cells, .slice A l1.length c, .agg (tripV t)] w fun e w' => e = .returned (.bool q) ∧ Below w.heap.size w w' := by
  have hmax : l1.length ≤ 9223372036854775807 := hC.2.1
  have HC := Aside0.mk hC
  have HE := Aside0.mk hE
  have HCC := Aside0.mk hc
  have HQ := Aside0.mk hq
  have hA := Alw.start p w t
  have HA := Aside0.mk hA
  clear hA hC hE hc hq
  have hpv : ∃ pv, pv = p.cells := ⟨_, rfl⟩
  unfold Pol.cells tripV
  unfold Pol.cells tripV at HA
  clear hpv
  go_enter Try.func63, Try.ntmps63
  go_wp2
  go_loopw [7, 12] (fun u7 u12 wr => ∃ (k : Nat) (y : Bool), k ≤ l1.length ∧ u12 = .int .i64 k ∧ u7 = .bool y ∧ Aside0 (Alw p w wr t) ∧ Aside0 (y = true ↔ ∃ r ∈ l1.take k, namesP r t.f2) ∧ Aside0 (∀ r ∈ l1.take k, namesP r t.f2 → r.f0 = false)) (fun _ u12 _ => l1.length - (intOf u12).toNat)
  case atStart => exact ⟨0, false, Nat.zero_le _, rfl, rfl, HA, ⟨by simp⟩, ⟨by simp⟩⟩
  case round =>
    obtain ⟨k, y, hk, rfl, rfl, HR, HY, HN⟩ := hrel
    by_cases hlt : k < l1.length
    · obtain ⟨ad, cs, e0, hcl, hK, hcell⟩ := Kd.C_get HC.out z78 (k : Int) (by omega) (by omega)
      subst e0
      have hget : l1.getD (k : Int).toNat z78 = l1[k] := by simp [hlt]
      have hK : k78.K w l1[k] cs := by rw [← hget]; exact hK
      have htk : l1.take (k + 1) = l1.take k ++ [l1[k]] := List.take_succ_eq_append_getElem hlt
      have hin : l1[k] ∈ l1 := List.getElem_mem hlt
      obtain ⟨x, hxx⟩ : ∃ x, x = l1[k] := ⟨_, rfl⟩
      rw [← hxx] at hK htk hin
      obtain ⟨A3', c3', rfl, l3, g3⟩ := k78_open hK
      have hcw : ∀ (j : Nat) (v : Value), ([.bool x.f0, .string x.f1, .string x.f2, .slice A3' x.f3.length c3', .int .i8 x.f4, .float .f64 x.f5] : List Value)[j]? = some v → wr.cell? ((ad.add (k * 6)).add j) = some v := by
        intro j v hj
        have h0 : w.cell? (ad.add (k * 6 + j)) = some v := hcell j v hj
        rw [add_add]
        exact pw_cell_below HR.out.below h0
      have HCW := Aside0.mk hcw
      have HTK := Aside0.mk htk
      have HIN := Aside0.mk hin
      have HL3 := Aside0.mk l3
      have HG3 := Aside0.mk g3
      have c0' : (k : Int) < l1.length := by omega
      clear hcell hK hget htk hin hxx hcw hcl l3 g3
      go_upto_region 5 with (first | ((with_reducible refine gate_dst (N := 15) rfl ?_); refine wpList_load_at rfl 78 (.tmp 14) rfl (ad.add (k * 6)) ?hx [.bool x.f0, .string x.f1, .string x.f2, .slice A3' x.f3.length c3', .int .i8 x.f4, .float .f64 x.f5] HCW.out _ Try.underlying78 rfl i78 ?_; (case hx => rfl); refine wpList_alloc_store rfl rfl 78 9 (.tmp 15) rfl rfl rfl #[(.bool false), (.string ⟨#[]⟩), (.string ⟨#[]⟩), (.slice none 0 0), (.int .i8 0), (.float .f64 0)] (ruleV x A3' c3') _ (z78v _) rfl i78 rfl (by simp [ruleV, Value.oneCell']) ?hy ?hp ?_; (case hy => rfl); (case hp => rfl)))
      simp only [Act.put, List.setIfInBounds_toArray, List.set_cons_succ, List.set_cons_zero]
      have hS2 := heap_alloc_new wr (.cells (ruleV x A3' c3') 78)
      have hA2 := HR.out.move (below_alloc (Below.refl _ wr) (.cells (ruleV x A3' c3') 78))
      obtain ⟨W2, hW2⟩ : ∃ W2, W2 = wr.alloc (.cells (ruleV x A3' c3') 78) := ⟨_, rfl⟩
      obtain ⟨g9, hg9⟩ : ∃ g9, g9 = wr.heap.size := ⟨_, rfl⟩
      rw [← hg9] at hS2 ⊢
      rw [← hW2] at hS2 hA2 ⊢
      have hS2 : Stays W2 g9 (ruleV x A3' c3') 78 := hS2
      have e2 : W2.cell? ⟨w.heap.size + 1, 2, none⟩ = some (.string t.f2) := hA2.s1.cell 2
      have HA2 := Aside0.mk hA2
      have HS2 := Aside0.mk hS2
      clear hS2 hA2 hW2 hg9
      obtain ⟨nb, hnb⟩ : ∃ nb, decide (namesP x t.f2) = nb := ⟨_, rfl⟩
      have HNB := Aside0.mk hnb
      clear hnb
      obtain ⟨db, hdb⟩ : ∃ db, x.f0 = db := ⟨_, rfl⟩
      have HDB := Aside0.mk hdb
      clear hdb
      have WALK : True := trivial
      cases nb with
      | false =>
        go_wp2_with (first | ((with_reducible refine gate_dst (N := 16) rfl ?_); refine wpList_load_blk rfl 78 (.tmp 9) rfl g9 ?hx (ruleV x A3' c3') 78 HS2.out _ Try.underlying78 rfl i78 ?_; (case hx => rfl)) | (go_at_call 76; (with_reducible refine (names_go x A3' c3' t.f2 _ _ HNB.out (Kd.C_below HG3.out HA2.out.below) HL3.out).mono ?_); rintro e w3 ⟨rfl, hb3⟩; have HA3 := Aside0.mk (HA2.out.move hb3); clear hb3))
        go_roundw
        case rel => exact ⟨k + 1, y, by omega, by go_num, rfl, HA3, ⟨by rw [HTK.out, HY.out]; simp [of_decide_eq_false HNB.out]⟩, ⟨fun r hr hn => by rw [HTK.out, List.mem_append, List.mem_singleton] at hr; rcases hr with hr | rfl; exact HN.out r hr hn; exact absurd hn (of_decide_eq_false HNB.out)⟩⟩
        case measure => simp [intOf]; omega
      | true =>
        cases db with
        | true =>
          go_wp2_with (first | ((with_reducible refine gate_dst (N := 16) rfl ?_); refine wpList_load_blk rfl 78 (.tmp 9) rfl g9 ?hx (ruleV x A3' c3') 78 HS2.out _ Try.underlying78 rfl i78 ?_; (case hx => rfl)) | (go_at_call 76; (with_reducible refine (names_go x A3' c3' t.f2 _ _ HNB.out (Kd.C_below HG3.out HA2.out.below) HL3.out).mono ?_); rintro e w3 ⟨rfl, hb3⟩; have x0 : w3.cell? ⟨g9, 0, none⟩ = some (.bool true) := ((HS2.out.below hb3).cell 0).trans (by simp [ruleV, HDB.out]); have HA3 := Aside0.mk (HA2.out.move hb3); clear hb3))
          go_ret
          refine ⟨?_, HA3.out.below⟩
          have hqf : q = false := by
            rw [← HQ.out]
            refine decide_eq_false ?_
            rintro ⟨⟨-, h2⟩, -⟩
            have := h2 x HIN.out (of_decide_eq_true HNB.out)
            rw [HDB.out] at this
            cases this
          rw [hqf]
          rfl
        | false =>
          go_wp2_with (first | ((with_reducible refine gate_dst (N := 16) rfl ?_); refine wpList_load_blk rfl 78 (.tmp 9) rfl g9 ?hx (ruleV x A3' c3') 78 HS2.out _ Try.underlying78 rfl i78 ?_; (case hx => rfl)) | (go_at_call 76; (with_reducible refine (names_go x A3' c3' t.f2 _ _ HNB.out (Kd.C_below HG3.out HA2.out.below) HL3.out).mono ?_); rintro e w3 ⟨rfl, hb3⟩; have x0 : w3.cell? ⟨g9, 0, none⟩ = some (.bool false) := ((HS2.out.below hb3).cell 0).trans (by simp [ruleV, HDB.out]); have HA3 := Aside0.mk (HA2.out.move hb3); clear hb3))
          go_roundw
          case rel => exact ⟨k + 1, true, by omega, by go_num, rfl, HA3, ⟨by rw [HTK.out]; exact ⟨fun _ => ⟨x, by simp, of_decide_eq_true HNB.out⟩, fun _ => rfl⟩⟩, ⟨fun r hr hn => by rw [HTK.out, List.mem_append, List.mem_singleton] at hr; rcases hr with hr | rfl; exact HN.out r hr hn; exact HDB.out⟩⟩
          case measure => simp [intOf]; omega
    · have hkk : k = l1.length := by omega
      subst hkk
      have hY := HY.out
      have hN := HN.out
      rw [List.take_length] at hY hN
      have HY2 := Aside0.mk hY
      have HN2 := Aside0.mk hN
      clear hY hN
      have e10 := HR.out.s0.cell 10
      simp only [Pol.cells, List.getElem?_toArray, List.getElem?_cons_zero, List.getElem?_cons_succ] at e10
      have f0 : wr.cell? ⟨w.heap.size + 1, 0, none⟩ = some (.string t.f0) := HR.out.s1.cell 0
      have f1 : wr.cell? ⟨w.heap.size + 1, 1, none⟩ = some (.string t.f1) := HR.out.s1.cell 1
      have f2 : wr.cell? ⟨w.heap.size + 1, 2, none⟩ = some (.string t.f2) := HR.out.s1.cell 2
      obtain ⟨xb, hxb⟩ : ∃ xb, decide (t ∈ p.d.exc) = xb := ⟨_, rfl⟩
      have HXB := Aside0.mk hxb
      clear hxb
      have hqv : q = (y && !xb) := by
        rw [← HQ.out, Bool.eq_iff_iff, Bool.and_eq_true, Bool.not_eq_true', HY2.out, ← HXB.out, decide_eq_false_iff_not]
        rw [allowsF_iff]
        exact ⟨fun h => ⟨h.1.1, h.2⟩, fun h => ⟨⟨h.1, HN2.out⟩, h.2⟩⟩
      have HQV := Aside0.mk hqv
      clear hqv
      cases y with
      | false =>
        go_wp2
        go_ret
        refine ⟨?_, HR.out.below⟩
        rw [HQV.out]
        rfl
      | true =>
        go_wp2_with (first | (go_at_call 77; (with_reducible refine (excepted_go p.A10 p.c10 p.d.exc t _ _ HXB.out (Kd.C_below HE.out HR.out.below) HCC.out).mono ?_); rintro e w3 ⟨rfl, hb3⟩; have HA3 := Aside0.mk (HR.out.move hb3); clear hb3))
        go_ret
        refine ⟨?_, HA3.out.below⟩
        rw [HQV.out]
        rfl
end Go.Proofs.Ythaiodklfoegiaa.MPol

namespace Go.Proofs.Ythaiodklfoegiaa.PG
open Go.Proofs.YthaiodklfoegiaaF
attribute [local go_sem high] run_feq run_fne run_flt_lt run_flt_le run_flt_gt run_flt_ge
open Go.RowKit Go.Proofs.YthaiodklfoegiaaW.PrintWords Go.Proofs.YthaiodklfoegiaaW.PrintLast Go.Proofs.YthaiodklfoegiaaW.PrintMore
attribute [local go_sem] max2_int min2_int max_two min_two max_three min_three max_four min_four   -- for this text's walks alone
set_option linter.unusedVariables false
set_option linter.unusedSimpArgs false

/-! ### mean_once: function 74 -/
def mean_once.l0 : Nat → List ByteArray → List ByteArray → Int → Int → Option (List ByteArray)
  | 0, _, _, _, _ => none
  | k + 1, x3, x6, x7, x8 => if x8 < x7 then (if 0 ≤ x8 then (if x8 < (x6.length : Int) then ((slices_Contains_string_string.f k x3 (rdOf ByteArray.empty x6 x8)).bind fun t255 => (if t255 = true then (mean_once.l0 k x3 x6 x7 (wrap64 (x8 + 1))) else (if x3.length < 8796093022208 then (mean_once.l0 k (x3 ++ [rdOf ByteArray.empty x6 x8]) x6 x7 (wrap64 (x8 + 1))) else (none)))) else (none)) else (none)) else (some x3)
def mean_once.f (k : Nat) (l0 : List ByteArray) : Option (List ByteArray) := mean_once.l0 k ([] : List ByteArray) l0 (l0.length : Int) 0
theorem mean_once.mono_l : ∀ k, (∀ y0 y1 y2 y3, LeO (mean_once.l0 k y0 y1 y2 y3) (mean_once.l0 (k + 1) y0 y1 y2 y3))
  | 0 => fun _ _ _ _ r h => by simp [mean_once.l0] at h
  | k + 1 => by
    have ih0 := mean_once.mono_l k
    · intro y0 y1 y2 y3
      unfold mean_once.l0
      repeat' first
      | (with_reducible exact ih0 _ _ _ _)
      | (with_reducible exact slices_Contains_string_string.mono _ _ _)
      | (with_reducible exact LeO.refl _)
      | (with_reducible exact LeO.none _)
      | (with_reducible refine LeO.ite ?_ ?_)
      | (with_reducible refine LeO.bind ?_ (fun _ => ?_))
      | exact ih0 _ _ _ _
      | exact slices_Contains_string_string.mono _ _ _
      | exact LeO.none _
      | refine LeO.ite ?_ ?_
      | refine LeO.bind ?_ (fun _ => ?_)
theorem mean_once.mono : ∀ a0 k, LeO (mean_once.f k a0) (mean_once.f (k + 1) a0) := by
  intro a0 k
  have ih0 := mean_once.mono_l k
  unfold mean_once.f
  repeat' first
      | (with_reducible exact ih0 _ _ _ _)
      | (with_reducible exact slices_Contains_string_string.mono _ _ _)
      | (with_reducible exact LeO.refl _)
      | (with_reducible exact LeO.none _)
      | (with_reducible refine LeO.ite ?_ ?_)
      | (with_reducible refine LeO.bind ?_ (fun _ => ?_))
      | exact ih0 _ _ _ _
      | exact slices_Contains_string_string.mono _ _ _
      | exact LeO.none _
      | refine LeO.ite ?_ ?_
      | refine LeO.bind ?_ (fun _ => ?_)
set_option maxHeartbeats 8000000 in
set_option maxRecDepth 100000 in
theorem mean_once.calls (k : Nat) (A0 : Option Addr) (c0 : Nat) (l0 : List ByteArray) (r : List ByteArray) (w : World) (hr0 : Kd.C Kd.string w A0 l0.length l0) (hc0 : l0.length ≤ c0) (h : mean_once.f k l0 = some r) :
    Calls Try.prog 74 #[.slice A0 l0.length c0] w fun e w' => ∃ v0_ : Value, e = .returned (v0_) ∧ Kd.R Kd.string 9 w' w.heap.size (fun _ => True) v0_ r ∧ Below w.heap.size w w' := by
  have HR0 := Aside0.mk hr0
  have HC0 := Aside0.mk hc0
  clear hr0 hc0
  have HB := Aside0.mk (Below.refl w.heap.size w)
  have H : (mean_once.l0 k ([] : List ByteArray) l0 (l0.length : Int) 0) = some r := h
  clear h
  have H' := Aside0.mk H
  clear H
  go_enter Try.func74, Try.ntmps74
  go_wp2
  go_loopg [3, 8] k (fun kq v3 v8 w' => ∃ (x3_1 : List ByteArray) (x8_1 : Int), v8 = .int .i64 x8_1 ∧ Aside0 (mean_once.l0 kq x3_1 l0 (l0.length : Int) x8_1 = some r) ∧ Aside0 (kq ≤ k) ∧ Aside0 (Kd.R Kd.string 9 w' w.heap.size (fun _ => True) v3 x3_1) ∧ Aside0 (Below w.heap.size w w'))
  case atStart => exact ⟨(([] : List ByteArray)), (0), (by first | rfl | (simp; done) | (simp [*]; done)), H', ⟨Nat.le_refl _⟩, ⟨by first | exact Kd.R_nil _ _ _ _ _ | exact Kd.N_nil _ _ _ _ _ | exact Kd.V_nil _ _ _ _ _ | exact Kd.Q_nil _ _ _ _ _ | exact Kd.S_nil _ _ _ _ _⟩, ⟨by repeat (first | (with_reducible first | exact HB.out | apply below_alloc | apply pw_below_drewN | apply below_drew1) | exact HB.out)⟩⟩
  case round =>
    clear H'
    obtain ⟨x3_1, x8_1, rfl, HA, HK1, HO_3, HB⟩ := hrel
    cases gk with
    | zero => exact absurd HA.out (by simp [mean_once.l0])
    | succ k1 =>
      have H := HA.out
      clear HA
      simp only [mean_once.l0] at H
      by_cases c2 : x8_1 < (l0.length : Int)
      · rw [if_pos c2] at H
        have c2b0 : decide (x8_1 < (l0.length : Int)) = true := decide_eq_true c2
        clear c2
        by_cases c3 : 0 ≤ x8_1
        · rw [if_pos c3] at H
          have c3b0 : decide (0 ≤ x8_1) = true := decide_eq_true c3
          clear c3
          by_cases c4 : x8_1 < (l0.length : Int)
          · rw [if_pos c4] at H
            have c4b0 : decide (x8_1 < (l0.length : Int)) = true := decide_eq_true c4
            clear c4
            replace H := Option.bind_eq_some_iff.mp H
            obtain ⟨t255, A50, H⟩ := H
            replace H : (if t255 = true then (mean_once.l0 k1 x3_1 l0 (l0.length : Int) (wrap64 (x8_1 + 1))) else (if x3_1.length < 8796093022208 then (mean_once.l0 k1 (x3_1 ++ [rdOf ByteArray.empty l0 x8_1]) l0 (l0.length : Int) (wrap64 (x8_1 + 1))) else (none))) = some r := H
            have A5 := Aside0.mk A50
            clear A50
            by_cases c6 : t255 = true
            · subst c6
              have H1 : (mean_once.l0 k1 x3_1 l0 (l0.length : Int) (wrap64 (x8_1 + 1))) = some r := by rw [if_pos rfl] at H; exact H
              clear H
              have H := H1
              clear H1
              have H' := Aside0.mk H
              clear H
              have p254 : 0 ≤ (x8_1 : Int) := of_decide_eq_true (by first | (with_reducible assumption) | assumption)
              have q254 : x8_1 < (l0.length : Int) := of_decide_eq_true (by first | (with_reducible assumption) | assumption)
              obtain ⟨ad254, e254, hx254_0⟩ := Kd.at_string HR0.out x8_1 p254 q254
              cases e254
              replace hx254_0 := (HB.out.cell (World.block_lt_of_cell? w _ hx254_0)).trans hx254_0
              replace p254 := eq_true p254
              replace q254 := eq_true q254
              obtain ⟨Ao7, co7, eo7⟩ := Kd.R_slice HO_3.out
              subst eo7
              go_wp2_with (first | ((with_reducible refine gate_callee (f := 62) rfl ?_); refine goesL_ (some 14) rfl rfl Try.func62 (by kernel_rfl) rfl #[.slice Ao7 x3_1.length co7, .string (rdOf ByteArray.empty l0 x8_1)] rfl (by (try simp only [List.map_toArray, List.map_cons, List.map_nil]); first | done | rfl | (simp only [List.length_drop, List.length_take]; rfl)) ?_; (with_reducible refine (slices_Contains_string_string.calls k1 _ _ x3_1 (rdOf ByteArray.empty l0 x8_1) true _ ?side1 ?side2 A5.out).mono ?_); (case side1 => repeat (first | exact (Kd.R_reads' HO_3.out).2.2 | (with_reducible refine Kd.C_alloc ?_ _) | (with_reducible refine Kd.C_drewN ?_ _) | (with_reducible refine Kd.C_drew ?_))); (case side2 => exact (Kd.R_reads' HO_3.out).2.1); rintro e w' ⟨rfl, ⟨nd, rfl⟩⟩; refine ⟨_, rfl, ?_⟩))
              go_roundg k1
              case measure => have := HK1.out; omega
              case rel => exact ⟨(x3_1), (wrap64 (x8_1 + 1)), (by first | rfl | (simp; done) | (simp [*]; done)), H', ⟨by have := HK1.out; omega⟩, ⟨by (with_reducible repeat (first | apply Kd.R_alloc | apply Kd.R_drewN | apply Kd.R_drew)); exact HO_3.out⟩, ⟨by repeat (first | (with_reducible first | exact HB.out | apply below_alloc | apply pw_below_drewN | apply below_drew1) | exact HB.out)⟩⟩
            · replace c6 := Bool.eq_false_iff.mpr c6
              subst c6
              have H1 : (if x3_1.length < 8796093022208 then (mean_once.l0 k1 (x3_1 ++ [rdOf ByteArray.empty l0 x8_1]) l0 (l0.length : Int) (wrap64 (x8_1 + 1))) else (none)) = some r := by rw [if_neg (show ¬ (false = true) by decide)] at H; exact H
              clear H
              have H := H1
              clear H1
              by_cases c8 : x3_1.length < 8796093022208
              · rw [if_pos c8] at H
                have LMc8 := Aside0.mk c8
                clear c8
                obtain ⟨y256, hy256⟩ : ∃ y_ : List ByteArray, y_ = (x3_1 ++ [rdOf ByteArray.empty l0 x8_1]) := ⟨_, rfl⟩
                replace H : (mean_once.l0 k1 y256 l0 (l0.length : Int) (wrap64 (x8_1 + 1))) = some r := by first | (rw [hy256]; with_reducible exact H) | (have H2_ := (Option.bind_some _ _).symm.trans H; rw [hy256]; with_reducible exact H2_) | (have H2_ := (Option.bind_some _ _).symm.trans H; with_reducible exact H2_) | with_reducible exact H | (rw [hy256]; exact H) | exact H
                have Ny256 := Aside0.mk hy256
                clear hy256
                have H' := Aside0.mk H
                clear H
                have p254 : 0 ≤ (x8_1 : Int) := of_decide_eq_true (by first | (with_reducible assumption) | assumption)
                have q254 : x8_1 < (l0.length : Int) := of_decide_eq_true (by first | (with_reducible assumption) | assumption)
                obtain ⟨ad254, e254, hx254_0⟩ := Kd.at_string HR0.out x8_1 p254 q254
                cases e254
                replace hx254_0 := (HB.out.cell (World.block_lt_of_cell? w _ hx254_0)).trans hx254_0
                replace p254 := eq_true p254
                replace q254 := eq_true q254
                obtain ⟨Ao9, co9, eo9⟩ := Kd.R_slice HO_3.out
                subst eo9
                go_wp2_with (first | ((with_reducible refine gate_callee (f := 62) rfl ?_); refine goesL_ (some 14) rfl rfl Try.func62 (by kernel_rfl) rfl #[.slice Ao9 x3_1.length co9, .string (rdOf ByteArray.empty l0 x8_1)] rfl (by (try simp only [List.map_toArray, List.map_cons, List.map_nil]); first | done | rfl | (simp only [List.length_drop, List.length_take]; rfl)) ?_; (with_reducible refine (slices_Contains_string_string.calls k1 _ _ x3_1 (rdOf ByteArray.empty l0 x8_1) false _ ?side1 ?side2 A5.out).mono ?_); (case side1 => repeat (first | exact (Kd.R_reads' HO_3.out).2.2 | (with_reducible refine Kd.C_alloc ?_ _) | (with_reducible refine Kd.C_drewN ?_ _) | (with_reducible refine Kd.C_drew ?_))); (case side2 => exact (Kd.R_reads' HO_3.out).2.1); rintro e w' ⟨rfl, ⟨nd, rfl⟩⟩; refine ⟨_, rfl, ?_⟩) | ((with_reducible refine gate_builtin (b := .append) (xs := #[.tmp 16, .tmp 18]) rfl ?_); at_builtin; refine Kd.R_append Kd.string (w0 := w) w.heap.size rfl (.tmp 16) (.tmp 18) 22 9 (.string ⟨#[]⟩) 16 rfl Try.underlying22 info9 rfl (by decide) (by omega) (.slice Ao9 x3_1.length co9) x3_1 (rdOf ByteArray.empty l0 x8_1) [.string (rdOf ByteArray.empty l0 x8_1)] (fun _ => True) (fun _ => False) rfl rfl ?aP (fun _ hk => hk.elim) ?aF ?aO ?aB ?aS ?aL ?_; (case aP => exact rfl); (case aB => exact (by repeat (first | (with_reducible first | exact HB.out | apply below_alloc | apply pw_below_drewN | apply below_drew1) | exact HB.out))); (case aF => exact (fun _ _ => trivial)); (case aO => exact (by (with_reducible repeat (first | apply Kd.R_alloc | apply Kd.R_drewN | apply Kd.R_drew)); exact HO_3.out)); (case aS => exact (below_size (by repeat (first | (with_reducible first | exact HB.out | apply below_alloc | apply pw_below_drewN | apply below_drew1) | exact HB.out)))); (case aL => have := LMc8.out; omega); intro v257 w10 ho hb hg hat; rw [← Ny256.out] at ho; have n0_ := Aside0.mk (hb); have n1_ := Aside0.mk (ho); clear HB; clear HO_3; have HB := n0_; have HO258 := n1_; clear n0_ n1_; clear ho hb hg hat))
                go_roundg k1
                case measure => have := HK1.out; omega
                case rel => exact ⟨(y256), (wrap64 (x8_1 + 1)), (by first | rfl | (simp; done) | (simp [*]; done)), H', ⟨by have := HK1.out; omega⟩, ⟨by (with_reducible repeat (first | apply Kd.R_alloc | apply Kd.R_drewN | apply Kd.R_drew)); exact HO258.out⟩, ⟨by repeat (first | (with_reducible first | exact HB.out | apply below_alloc | apply pw_below_drewN | apply below_drew1) | exact HB.out)⟩⟩
              · rw [if_neg c8] at H
                exact absurd H (by simp)
          · rw [if_neg c4] at H
            exact absurd H (by simp)
        · rw [if_neg c3] at H
          exact absurd H (by simp)
      · rw [if_neg c2] at H
        have c2b0 : decide (x8_1 < (l0.length : Int)) = false := decide_eq_false c2
        clear c2
        obtain rfl := Option.some.inj H
        go_wp2
        go_ret
        exact ⟨_, by first | rfl | (simp [errW_none, errW_some] <;> rfl) | (simp [*, errW_none, errW_some] <;> rfl), by (with_reducible repeat (first | apply Kd.R_alloc | apply Kd.R_drewN | apply Kd.R_drew)); exact HO_3.out, by repeat (first | (with_reducible first | exact HB.out | apply below_alloc | apply pw_below_drewN | apply below_drew1) | exact HB.out)⟩

end Go.Proofs.Ythaiodklfoegiaa.PG

/- slices.IndexFunc of the subjects; mean.once. -/
namespace Go.Proofs.Ythaiodklfoegiaa.MPol
open Go.RowKit Go.Proofs.YthaiodklfoegiaaW.PrintWords Go.Proofs.YthaiodklfoegiaaW.PrintLast Go.Proofs.YthaiodklfoegiaaW.PrintMore Go.Proofs.Ythaiodklfoegiaa.BMap Go.Proofs.Ythaiodklfoegiaa.BRow Go.Proofs.Ythaiodklfoegiaa.MLines Go.Proofs.Ythaiodklfoegiaa.MPut Go.Proofs.Ythaiodklfoegiaa.MClose Go.Proofs.Ythaiodklfoegiaa.MConcat Go.Proofs.Ythaiodklfoegiaa.MStand Go.Proofs.Ythaiodklfoegiaa.MSide Go.Maps
open Go.Proofs.Ythaiodklfoegiaa Go.Proofs.Ythaiodklfoegiaa.PG Go.Proofs.YthaiodklfoegiaaF

set_option maxHeartbeats 1000000 in
set_option maxRecDepth 100000 in
theorem same_calls (n : ByteArray) (f g : Nat) (s : ByteArray) (w : World) (h : w.cell? ⟨g, 0, none⟩ = some (.string s)) (q : Bool) (hq : decide (n = s) = q) :
    Calls Try.prog 73 #[.agg #[.string n, .float .f64 f], .pointer (some ⟨g, 0, none⟩)] w fun e w' => e = .returned (.bool q) ∧ Below w.heap.size w w' := by
  have hb := beq_str n s
  rw [hq] at hb
  have h2 : (w.alloc (.cells #[.string n, .float .f64 f] 54)).cell? ⟨g, 0, none⟩ = some (.string s) := pw_cell_below (below_alloc (Below.refl _ _) _) h
  clear hq h
  go_enter Try.func73, Try.ntmps73
  go_wp2
  go_ret
  refine ⟨?_, below_alloc (Below.refl _ _) _⟩
  first | rfl | (rw [← hb]; rfl)

set_option maxHeartbeats 1000000 in
set_option maxRecDepth 100000 in
theorem index_calls (A : Option Addr) (c : Nat) (l : List S54) (g : Nat) (s : ByteArray) (w : World) (hC : Kd.C k54 w A l.length l) (hg : w.cell? ⟨g, 0, none⟩ = some (.string s)) (i : Nat) (hi : i < l.length) (he : l[i].f0 = s) :
    Calls Try.prog 72 #[.slice A l.length c, .func (.func 73) #[] #[.pointer (some ⟨g, 0, none⟩)]] w fun e w' => ∃ j : Nat, e = .returned (.int .i64 j) ∧ j ≤ i ∧ (∃ h : j < l.length, l[j].f0 = s) ∧ (∀ x ∈ l.take j, x.f0 ≠ s) ∧ Below w.heap.size w w' := by
  have hmax : l.length ≤ 9223372036854775807 := hC.2.1
  have HC := Aside0.mk hC
  have HG := Aside0.mk hg
  have HE := Aside0.mk he
  have HI := Aside0.mk hi
  clear hC hg he
  go_enter Try.func72, Try.ntmps72
  go_wp2
  go_loopw [8] (fun u wr => ∃ k : Nat, k ≤ i ∧ u = .int .i64 k ∧ Aside0 (Below w.heap.size w wr) ∧ Aside0 (∀ x ∈ l.take k, x.f0 ≠ s)) (fun u _ => l.length - (intOf u).toNat)
  case atStart => exact ⟨0, Nat.zero_le _, rfl, ⟨Below.refl _ _⟩, ⟨by simp⟩⟩
  case round =>
    obtain ⟨k, hk, rfl, HB, HN⟩ := hrel
    have hlt : k < l.length := Nat.lt_of_le_of_lt hk HI.out
    obtain ⟨ad, e0, hx0, hx1⟩ := at_T54 HC.out (k : Int) (by omega) (by omega)
    subst e0
    have hget : rd_T54 l (k : Int) = l[k] := by simp [rd_T54, hlt]
    simp only [hget, Int.toNat_natCast] at hx0 hx1
    have htk : l.take (k + 1) = l.take k ++ [l[k]] := List.take_succ_eq_append_getElem hlt
    have hki : l[k].f0 ≠ s → k < i := fun h => by
      have : k ≠ i := fun e => h (by subst e; exact HE.out)
      omega
    have HW := Aside0.mk (show ∃ h : k < l.length, l[k].f0 = l[k].f0 from ⟨hlt, rfl⟩)
    obtain ⟨x, hxx⟩ : ∃ x, x = l[k] := ⟨_, rfl⟩
    rw [← hxx] at hx0 hx1 htk hki
    have HXX := Aside0.mk hxx
    have HTK := Aside0.mk htk
    have HKI := Aside0.mk hki
    have y0 := pw_cell_below HB.out hx0
    have y1 := pw_cell_below HB.out hx1
    have hg2 := pw_cell_below HB.out HG.out
    have HG2 := Aside0.mk hg2
    have c0' : (k : Int) < l.length := by omega
    obtain ⟨q, hq⟩ : ∃ q, decide (x.f0 = s) = q := ⟨_, rfl⟩
    have HQ := Aside0.mk hq
    clear hq hx0 hx1 hget hxx htk hki hg2
    cases q with
    | true =>
      go_wp2_with (first | (go_at_call 73; (with_reducible refine (same_calls x.f0 x.f1 g s _ HG2.out _ HQ.out).mono ?_); rintro e w3 ⟨rfl, hb3⟩; have HB3 := Aside0.mk (below_then HB.out HB.out.size hb3); clear hb3))
      go_ret
      exact ⟨k, rfl, hk, ⟨hlt, by rw [← HXX.out]; exact of_decide_eq_true HQ.out⟩, HN.out, HB3.out⟩
    | false =>
      go_wp2_with (first | (go_at_call 73; (with_reducible refine (same_calls x.f0 x.f1 g s _ HG2.out _ HQ.out).mono ?_); rintro e w3 ⟨rfl, hb3⟩; have HB3 := Aside0.mk (below_then HB.out HB.out.size hb3); clear hb3))
      have hne := of_decide_eq_false HQ.out
      go_roundw
      case rel => exact ⟨k + 1, HKI.out hne, by go_num, HB3, ⟨fun y hy => by rw [HTK.out, List.mem_append, List.mem_singleton] at hy; rcases hy with hy | rfl; exact HN.out y hy; exact hne⟩⟩
      case measure => simp [intOf]; omega

theorem putAll_short (L : List ByteArray) : ∀ xs : List ByteArray, (MPut.putAll L xs).length ≤ L.length + xs.length := by
  intro xs
  induction xs generalizing L with
  | nil => simp [MPut.putAll]
  | cons x r ih =>
    have h1 := ih (put1 L x)
    have h2 : (put1 L x).length ≤ L.length + 1 := by unfold put1; split <;> simp
    show (MPut.putAll (put1 L x) r).length ≤ _
    simp only [List.length_cons]
    omega
theorem once_ev (l : List ByteArray) (hl : l.length ≤ 8796093022207) : ∀ (d n : Nat), n + d = l.length → Ev (fun k => mean_once.l0 k (MPut.putAll [] (l.take n)) l l.length n) (MPut.putAll [] l)
  | 0, n, h => by
    rw [List.take_of_length_le (by omega)]
    refine Ev.step (f := fun _ => some _) (fun k => ?_) (Ev.now _)
    simp only [mean_once.l0]
    rw [if_neg (by omega)]
  | d + 1, n, h => by
    have hlt : n < l.length := by omega
    have hrd : rdOf ByteArray.empty l (n : Int) = l[n] := by simp [rdOf, hlt]
    have htk : l.take (n + 1) = l.take n ++ [l[n]] := List.take_succ_eq_append_getElem hlt
    have hnx : MPut.putAll [] (l.take (n + 1)) = put1 (MPut.putAll [] (l.take n)) l[n] := by rw [htk, MPut.putAll_snoc]
    have hsh := putAll_short [] (l.take n)
    have hsh : (MPut.putAll [] (l.take n)).length < 8796093022208 := by
      rw [List.length_take] at hsh
      simp only [List.length_nil] at hsh
      omega
    have hc := VPure.contains_f (MPut.putAll [] (l.take n)) l[n] (by omega)
    refine Ev.step (f := fun k => (slices_Contains_string_string.f k (MPut.putAll [] (l.take n)) l[n]).bind fun t => if t = true then mean_once.l0 k (MPut.putAll [] (l.take n)) l l.length ((n + 1 : Nat) : Int) else if (MPut.putAll [] (l.take n)).length < 8796093022208 then mean_once.l0 k (MPut.putAll [] (l.take n) ++ [l[n]]) l l.length ((n + 1 : Nat) : Int) else none) (fun k => ?_) (Ev.bind (f := fun k t => if t = true then mean_once.l0 k (MPut.putAll [] (l.take n)) l l.length ((n + 1 : Nat) : Int) else if (MPut.putAll [] (l.take n)).length < 8796093022208 then mean_once.l0 k (MPut.putAll [] (l.take n) ++ [l[n]]) l l.length ((n + 1 : Nat) : Int) else none) hc ?_)
    · simp only [mean_once.l0]
      rw [if_pos (by omega), if_pos (by omega), if_pos (by omega), hrd, VPure.w64n hlt (by omega)]
    · have ih := once_ev l hl d (n + 1) (by omega)
      rw [hnx] at ih
      by_cases hm : l[n] ∈ MPut.putAll [] (l.take n)
      · rw [decide_eq_true ((mem_nm _ _).2 hm)]
        refine Ev.congr (fun k => ?_) ih
        rw [if_pos rfl, put1, if_pos hm]
      · rw [decide_eq_false (fun e => hm ((mem_nm _ _).1 e))]
        refine Ev.congr (fun k => ?_) ih
        rw [if_neg (by simp), if_pos hsh, put1, if_neg hm]
theorem once_go (A : Option Addr) (c : Nat) (l : List ByteArray) (w : World) (hC : Kd.C Kd.string w A l.length l) (hc : l.length ≤ c) (hl : l.length ≤ 8796093022207) :
    Calls Try.prog 74 #[.slice A l.length c] w fun e w' => ∃ v, e = .returned v ∧ Kd.R Kd.string 9 w' w.heap.size (fun _ => True) v (MPut.putAll [] l) ∧ Below w.heap.size w w' := by
  obtain ⟨k, hk⟩ := (once_ev l hl l.length 0 (by omega)).rounds
  exact mean_once.calls k A c l _ w hC hc hk
end Go.Proofs.Ythaiodklfoegiaa.MPol
