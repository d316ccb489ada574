/- Of this session's texts, what the row uses: PGx17, RPure, PGx45, PGx46, PGx47, OMark, OMarkW, OGr, VPure3, GValidMain, COwn, PGx28, ORefA. -/
import Derived.Test.YthaiodklfoegiaaZ1
import Derived.Test.YthaiodklfoegiaaZ2
import Derived.Test.YthaiodklfoegiaaZ4
import Derived.Test.YthaiodklfoegiaaZ3
import Derived.Deep.DeepCutAuto
import Derived.Maps.AppendAt
set_option linter.unusedSimpArgs false
set_option linter.unusedVariables false
set_option maxHeartbeats 8000000
set_option maxRecDepth 100000
namespace Go.Proofs.Ythaiodklfoegiaa.PG
open YthaiodklfoegiaaF
attribute [local go_sem high] run_feq run_fne run_flt_lt run_flt_le run_flt_gt run_flt_ge
open Go.RowKit YthaiodklfoegiaaW.PrintWords YthaiodklfoegiaaW.PrintLast YthaiodklfoegiaaW.PrintMore
attribute [local go_sem] max2_int min2_int max_two min_two max_three min_three max_four min_four
mutual
def gatehouseref11_classes.l0 : Nat → List (List Int) → List Int → List Int → Int → Option (List Int × List Int)
 | 0, _, _, _, _ => none
 | k + 1, x0, x4, x5, x6 => if x6 < (x0.length : Int) then (gatehouseref11_classes.l1 k x0 x4 x5 x6 0 0) else (some (x4, x5))
def gatehouseref11_classes.l1 : Nat → List (List Int) → List Int → List Int → Int → Int → Int → Option (List Int × List Int)
 | 0, _, _, _, _, _, _ => none
 | k + 1, x0, x4, x5, x6, x7, x8 => if x8 < (x5.length : Int) then (if 0 ≤ x8 then (if 0 ≤ (rd x5 x8) then (if (rd x5 x8) < (x0.length : Int) then (if 0 ≤ x6 then (if x6 < (x0.length : Int) then ((gatehouseref11_equal.f k (rd_L3 x0 (rd x5 x8)) (rd_L3 x0 x6)).bind fun ZT => (if ZT = true then (gatehouseref11_classes.l1 k x0 x4 x5 x6 (wrap64 (x8 + 1)) (wrap64 (x8 + 1))) else (gatehouseref11_classes.l1 k x0 x4 x5 x6 x7 (wrap64 (x8 + 1))))) else (none)) else (none)) else (none)) else (none)) else (none)) else (if x7 = 0 then (if x5.length < 17592186044416 then ((some (x5 ++ [x6] : List Int)).bind fun Zo => (if x4.length < 17592186044416 then (gatehouseref11_classes.l0 k x0 (x4 ++ [(Zo.length : Int)]) Zo (wrap64 (x6 + 1))) else (none))) else (none)) else (if x4.length < 17592186044416 then (gatehouseref11_classes.l0 k x0 (x4 ++ [x7]) x5 (wrap64 (x6 + 1))) else (none)))
end
def gatehouseref11_classes.f (k : Nat) (l0 : List (List Int)) : Option (List Int × List Int) := gatehouseref11_classes.l0 k l0 ([] : List Int) ([] : List Int) 0
theorem gatehouseref11_classes.calls (k : Nat) (A0 : Option Addr) (c0 : Nat) (l0 : List (List Int)) (r1 : List Int) (r2 : List Int) (w : World) (hr0 : Kd.C (Kd.slice 31 (Kd.int .u16)) w A0 l0.length l0) (hc0 : l0.length ≤ c0) (h : gatehouseref11_classes.f k l0 = some (r1, r2)) :
  Calls Try.prog 44 #[.slice A0 l0.length c0] w fun e w' => ∃ v0_ v1_ : Value, e = .returned (.tuple #[v0_, v1_]) ∧ Kd.R (Kd.int .i64) 3 w' w.heap.size (fun k_ => some k_ ≠ (v1_ : Value).ownBlock) v0_ r1 ∧ Kd.R (Kd.int .i64) 3 w' w.heap.size (fun k_ => some k_ ≠ (v0_ : Value).ownBlock) v1_ r2 ∧ Below w.heap.size w w' := by
 have HR0 := jA hr0
 have HC0 := jA hc0
 clear hr0 hc0
 have HB := jA (Below.refl w.heap.size w)
 have H : (gatehouseref11_classes.l0 k l0 ([] : List Int) ([] : List Int) 0) = some (r1, r2) := h
 clear h
 have H' := jA H
 clear H
 go_enter Try.func44, Try.ntmps44
 go_wp2
 repeat (go_quiet (fail); try go_wp2)
 go_loopg [4, 5, 6] k (fun kq v4 v5 v6 w' => ∃ (Zg : List Int) (Za : List Int) (Zb : Int), v6 = .int .i64 Zb ∧ Aside0 (gatehouseref11_classes.l0 kq l0 Zg Za Zb = some (r1, r2)) ∧ Aside0 (kq ≤ k) ∧ Aside0 (Kd.R (Kd.int .i64) 3 w' w.heap.size (fun k_ => some k_ ≠ (v5 : Value).ownBlock) v4 Zg) ∧ Aside0 (Kd.R (Kd.int .i64) 3 w' w.heap.size (fun k_ => some k_ ≠ (v4 : Value).ownBlock) v5 Za) ∧ Aside0 (Below w.heap.size w w'))
 case atStart => exact ⟨(([] : List Int)), (([] : List Int)), (0), (by first | rfl | (simp; done) | (simp [*]; done)), H', ⟨Nat.le_refl _⟩, ⟨by first | exact Kd.R_nil _ _ _ _ _ | exact Kd.N_nil _ _ _ _ _ | exact Kd.V_nil _ _ _ _ _ | exact Kd.Q_nil _ _ _ _ _ | exact Kd.S_nil _ _ _ _ _⟩, ⟨by first | exact Kd.R_nil _ _ _ _ _ | exact Kd.N_nil _ _ _ _ _ | exact Kd.V_nil _ _ _ _ _ | exact Kd.Q_nil _ _ _ _ _ | exact Kd.S_nil _ _ _ _ _⟩, ⟨by repeat (first | (with_reducible first | exact HB.out | apply below_alloc | apply pw_below_drewN | apply below_drew1) | exact HB.out)⟩⟩
 case round =>
  clear H'
  obtain ⟨Zg, Za, Zb, rfl, HA, HK1, Ze, Zd, HB⟩ := hrel
  cases gk with
  | zero => exact absurd HA.out (by simp [gatehouseref11_classes.l0])
  | succ k1 =>
   have H := HA.out
   clear HA
   simp only [gatehouseref11_classes.l0] at H
   by_cases c2 : Zb < (l0.length : Int)
   ·rw [if_pos c2] at H
    have c2b0 : decide (Zb < (l0.length : Int)) = true := decide_eq_true c2
    clear c2
    have H' := jA H
    clear H
    go_wp2
    repeat (go_quiet (fail); try go_wp2)
    go_loopg [7, 8] k1 (fun kq v7 v8 w' => ∃ (Zn : Int) (Zc : Int), v7 = .int .i64 Zn ∧ v8 = .int .i64 Zc ∧ Aside0 (gatehouseref11_classes.l1 kq l0 Zg Za Zb Zn Zc = some (r1, r2)) ∧ Aside0 (kq ≤ k1) ∧ Aside0 (Kd.R (Kd.int .i64) 3 w' w.heap.size (fun k_ => some k_ ≠ (u5 : Value).ownBlock) u4 Zg) ∧ Aside0 (Kd.R (Kd.int .i64) 3 w' w.heap.size (fun k_ => some k_ ≠ (u4 : Value).ownBlock) u5 Za) ∧ Aside0 (Below w.heap.size w w'))
    case atStart => exact ⟨(0), (0), (by first | rfl | (simp; done) | (simp [*]; done)), (by first | rfl | (simp; done) | (simp [*]; done)), H', ⟨Nat.le_refl _⟩, ⟨by (with_reducible repeat (first | apply Kd.R_alloc | apply Kd.R_drewN | apply Kd.R_drew)); exact Ze.out⟩, ⟨by (with_reducible repeat (first | apply Kd.R_alloc | apply Kd.R_drewN | apply Kd.R_drew)); exact Zd.out⟩, ⟨by repeat (first | (with_reducible first | exact HB.out | apply below_alloc | apply pw_below_drewN | apply below_drew1) | exact HB.out)⟩⟩
    case round =>
     clear H'
     try clear c2
     try clear c2b0
     try clear p2
     obtain ⟨Zn, Zc, rfl, rfl, HA, HK2, Ze, Zd, HB⟩ := hrel
     cases gk with
     | zero => exact absurd HA.out (by simp [gatehouseref11_classes.l1])
     | succ k2 =>
      have H := HA.out
      clear HA
      simp only [gatehouseref11_classes.l1] at H
      by_cases c3 : Zc < (Za.length : Int)
      ·rw [if_pos c3] at H
       have c3b0 : decide (Zc < (Za.length : Int)) = true := decide_eq_true c3
       clear c3
       by_cases c4 : 0 ≤ Zc
       ·rw [if_pos c4] at H
        have c4b0 : decide (0 ≤ Zc) = true := decide_eq_true c4
        clear c4
        by_cases c5 : 0 ≤ (rd Za Zc)
        ·rw [if_pos c5] at H
         have c5b0 : decide (0 ≤ (rd Za Zc)) = true := decide_eq_true c5
         clear c5
         by_cases c6 : (rd Za Zc) < (l0.length : Int)
         ·rw [if_pos c6] at H
          have c6b0 : decide ((rd Za Zc) < (l0.length : Int)) = true := decide_eq_true c6
          clear c6
          by_cases c7 : 0 ≤ Zb
          ·rw [if_pos c7] at H
           have c7b0 : decide (0 ≤ Zb) = true := decide_eq_true c7
           clear c7
           by_cases c8 : Zb < (l0.length : Int)
           ·rw [if_pos c8] at H
            have c8b0 : decide (Zb < (l0.length : Int)) = true := decide_eq_true c8
            clear c8
            replace H := Option.bind_eq_some_iff.mp H
            obtain ⟨ZT, A90, H⟩ := H
            replace H : (if ZT = true then (gatehouseref11_classes.l1 k2 l0 Zg Za Zb (wrap64 (Zc + 1)) (wrap64 (Zc + 1))) else (gatehouseref11_classes.l1 k2 l0 Zg Za Zb Zn (wrap64 (Zc + 1)))) = some (r1, r2) := H
            have A9 := jA A90
            clear A90
            by_cases c10 : ZT = true
            ·subst c10
             have H1 : (gatehouseref11_classes.l1 k2 l0 Zg Za Zb (wrap64 (Zc + 1)) (wrap64 (Zc + 1))) = some (r1, r2) := by rw [if_pos rfl] at H; exact H
             clear H
             have H := H1
             clear H1
             have H' := jA H
             clear H
             obtain ⟨Yg, Yh, Yc⟩ := Kd.R_slice Zd.out
             subst Yc
             have ZA : 0 ≤ (Zc : Int) := of_decide_eq_true (by first | (with_reducible assumption) | assumption)
             have ZB : Zc < (Za.length : Int) := of_decide_eq_true (by first | (with_reducible assumption) | assumption)
             obtain ⟨Z6, ZV, ZU⟩ := Kd.at_int (Kd.R_reads' Zd.out).2.2 Zc ZA ZB
             cases ZV
             replace ZA := eq_true ZA
             replace ZB := eq_true ZB
             have ZC : 0 ≤ ((rd Za Zc) : Int) := of_decide_eq_true (by first | (with_reducible assumption) | assumption)
             have ZD : (rd Za Zc) < (l0.length : Int) := of_decide_eq_true (by first | (with_reducible assumption) | assumption)
             obtain ⟨ZG, ZW, ZX, ZY, Zh, Zt, Zu⟩ := at_L3 HR0.out (rd Za Zc) ZC ZD
             cases ZY
             replace Zh := (HB.out.cell (World.block_lt_of_cell? w _ Zh)).trans Zh
             have Zi := jA Zu
             have Zj := jA Zt
             clear Zu Zt
             replace ZC := eq_true ZC
             replace ZD := eq_true ZD
             have ZE : 0 ≤ (Zb : Int) := of_decide_eq_true (by first | (with_reducible assumption) | assumption)
             have ZF : Zb < (l0.length : Int) := of_decide_eq_true (by first | (with_reducible assumption) | assumption)
             obtain ⟨ZH, ZZ, Z0, Z1, Zk, Zv, Zw⟩ := at_L3 HR0.out Zb ZE ZF
             obtain rfl : ZG = ZH := (by injection Z1)
             replace Zk := (HB.out.cell (World.block_lt_of_cell? w _ Zk)).trans Zk
             have Zl := jA Zw
             have Zm := jA Zv
             clear Zw Zv
             replace ZE := eq_true ZE
             replace ZF := eq_true ZF
             go_wp2_with (first | (go_at_call 39; (with_reducible refine (gatehouseref11_equal.calls k2 _ _ (rd_L3 l0 (rd Za Zc)) _ _ (rd_L3 l0 Zb) true _ ?Zp ?Zq ?Zr ?Zs A9.out).mono ?_); (case Zp => repeat (first | exact (Kd.C_below Zi.out HB.out) | (with_reducible refine Kd.C_alloc ?_ _) | (with_reducible refine Kd.C_drewN ?_ _) | (with_reducible refine Kd.C_drew ?_))); (case Zq => exact Zj.out); (case Zr => repeat (first | exact (Kd.C_below Zl.out HB.out) | (with_reducible refine Kd.C_alloc ?_ _) | (with_reducible refine Kd.C_drewN ?_ _) | (with_reducible refine Kd.C_drew ?_))); (case Zs => exact Zm.out); rintro e w' ⟨rfl, ⟨nd, rfl⟩⟩; (try first | exact ⟨rfl, _, World.drewN_drewN _ _ _⟩ | exact ⟨rfl, _, Eq.trans (World.drewN_drewN _ _ _) (congrArg (World.drewN _) (Nat.add_assoc _ _ _))⟩)))
             repeat (go_quiet (first | (go_at_call 39; (with_reducible refine (gatehouseref11_equal.calls k2 _ _ (rd_L3 l0 (rd Za Zc)) _ _ (rd_L3 l0 Zb) true _ ?Zp ?Zq ?Zr ?Zs A9.out).mono ?_); (case Zp => repeat (first | exact (Kd.C_below Zi.out HB.out) | (with_reducible refine Kd.C_alloc ?_ _) | (with_reducible refine Kd.C_drewN ?_ _) | (with_reducible refine Kd.C_drew ?_))); (case Zq => exact Zj.out); (case Zr => repeat (first | exact (Kd.C_below Zl.out HB.out) | (with_reducible refine Kd.C_alloc ?_ _) | (with_reducible refine Kd.C_drewN ?_ _) | (with_reducible refine Kd.C_drew ?_))); (case Zs => exact Zm.out); rintro e w' ⟨rfl, ⟨nd, rfl⟩⟩; (try first | exact ⟨rfl, _, World.drewN_drewN _ _ _⟩ | exact ⟨rfl, _, Eq.trans (World.drewN_drewN _ _ _) (congrArg (World.drewN _) (Nat.add_assoc _ _ _))⟩))); try go_wp2_with (first | (go_at_call 39; (with_reducible refine (gatehouseref11_equal.calls k2 _ _ (rd_L3 l0 (rd Za Zc)) _ _ (rd_L3 l0 Zb) true _ ?Zp ?Zq ?Zr ?Zs A9.out).mono ?_); (case Zp => repeat (first | exact (Kd.C_below Zi.out HB.out) | (with_reducible refine Kd.C_alloc ?_ _) | (with_reducible refine Kd.C_drewN ?_ _) | (with_reducible refine Kd.C_drew ?_))); (case Zq => exact Zj.out); (case Zr => repeat (first | exact (Kd.C_below Zl.out HB.out) | (with_reducible refine Kd.C_alloc ?_ _) | (with_reducible refine Kd.C_drewN ?_ _) | (with_reducible refine Kd.C_drew ?_))); (case Zs => exact Zm.out); rintro e w' ⟨rfl, ⟨nd, rfl⟩⟩; (try first | exact ⟨rfl, _, World.drewN_drewN _ _ _⟩ | exact ⟨rfl, _, Eq.trans (World.drewN_drewN _ _ _) (congrArg (World.drewN _) (Nat.add_assoc _ _ _))⟩))))
             go_roundg k2
             case measure => have := HK1.out; have := HK2.out; omega
             case rel => exact ⟨(wrap64 (Zc + 1)), (wrap64 (Zc + 1)), (by first | rfl | (simp; done) | (simp [*]; done)), (by first | rfl | (simp; done) | (simp [*]; done)), H', ⟨by have := HK1.out; have := HK2.out; omega⟩, ⟨by (with_reducible repeat (first | apply Kd.R_alloc | apply Kd.R_drewN | apply Kd.R_drew)); exact Ze.out⟩, ⟨by (with_reducible repeat (first | apply Kd.R_alloc | apply Kd.R_drewN | apply Kd.R_drew)); exact Zd.out⟩, ⟨by repeat (first | (with_reducible first | exact HB.out | apply below_alloc | apply pw_below_drewN | apply below_drew1) | exact HB.out)⟩⟩
            ·replace c10 := Bool.eq_false_iff.mpr c10
             subst c10
             have H1 : (gatehouseref11_classes.l1 k2 l0 Zg Za Zb Zn (wrap64 (Zc + 1))) = some (r1, r2) := by rw [if_neg (show ¬ (false = true) by decide)] at H; exact H
             clear H
             have H := H1
             clear H1
             have H' := jA H
             clear H
             obtain ⟨Yi, Yj, Yd⟩ := Kd.R_slice Zd.out
             subst Yd
             have ZA : 0 ≤ (Zc : Int) := of_decide_eq_true (by first | (with_reducible assumption) | assumption)
             have ZB : Zc < (Za.length : Int) := of_decide_eq_true (by first | (with_reducible assumption) | assumption)
             obtain ⟨Z6, ZV, ZU⟩ := Kd.at_int (Kd.R_reads' Zd.out).2.2 Zc ZA ZB
             cases ZV
             replace ZA := eq_true ZA
             replace ZB := eq_true ZB
             have ZC : 0 ≤ ((rd Za Zc) : Int) := of_decide_eq_true (by first | (with_reducible assumption) | assumption)
             have ZD : (rd Za Zc) < (l0.length : Int) := of_decide_eq_true (by first | (with_reducible assumption) | assumption)
             obtain ⟨ZG, ZW, ZX, ZY, Zh, Zt, Zu⟩ := at_L3 HR0.out (rd Za Zc) ZC ZD
             cases ZY
             replace Zh := (HB.out.cell (World.block_lt_of_cell? w _ Zh)).trans Zh
             have Zi := jA Zu
             have Zj := jA Zt
             clear Zu Zt
             replace ZC := eq_true ZC
             replace ZD := eq_true ZD
             have ZE : 0 ≤ (Zb : Int) := of_decide_eq_true (by first | (with_reducible assumption) | assumption)
             have ZF : Zb < (l0.length : Int) := of_decide_eq_true (by first | (with_reducible assumption) | assumption)
             obtain ⟨ZH, ZZ, Z0, Z1, Zk, Zv, Zw⟩ := at_L3 HR0.out Zb ZE ZF
             obtain rfl : ZG = ZH := (by injection Z1)
             replace Zk := (HB.out.cell (World.block_lt_of_cell? w _ Zk)).trans Zk
             have Zl := jA Zw
             have Zm := jA Zv
             clear Zw Zv
             replace ZE := eq_true ZE
             replace ZF := eq_true ZF
             go_wp2_with (first | (go_at_call 39; (with_reducible refine (gatehouseref11_equal.calls k2 _ _ (rd_L3 l0 (rd Za Zc)) _ _ (rd_L3 l0 Zb) false _ ?Zp ?Zq ?Zr ?Zs A9.out).mono ?_); (case Zp => repeat (first | exact (Kd.C_below Zi.out HB.out) | (with_reducible refine Kd.C_alloc ?_ _) | (with_reducible refine Kd.C_drewN ?_ _) | (with_reducible refine Kd.C_drew ?_))); (case Zq => exact Zj.out); (case Zr => repeat (first | exact (Kd.C_below Zl.out HB.out) | (with_reducible refine Kd.C_alloc ?_ _) | (with_reducible refine Kd.C_drewN ?_ _) | (with_reducible refine Kd.C_drew ?_))); (case Zs => exact Zm.out); rintro e w' ⟨rfl, ⟨nd, rfl⟩⟩; (try first | exact ⟨rfl, _, World.drewN_drewN _ _ _⟩ | exact ⟨rfl, _, Eq.trans (World.drewN_drewN _ _ _) (congrArg (World.drewN _) (Nat.add_assoc _ _ _))⟩)))
             repeat (go_quiet (first | (go_at_call 39; (with_reducible refine (gatehouseref11_equal.calls k2 _ _ (rd_L3 l0 (rd Za Zc)) _ _ (rd_L3 l0 Zb) false _ ?Zp ?Zq ?Zr ?Zs A9.out).mono ?_); (case Zp => repeat (first | exact (Kd.C_below Zi.out HB.out) | (with_reducible refine Kd.C_alloc ?_ _) | (with_reducible refine Kd.C_drewN ?_ _) | (with_reducible refine Kd.C_drew ?_))); (case Zq => exact Zj.out); (case Zr => repeat (first | exact (Kd.C_below Zl.out HB.out) | (with_reducible refine Kd.C_alloc ?_ _) | (with_reducible refine Kd.C_drewN ?_ _) | (with_reducible refine Kd.C_drew ?_))); (case Zs => exact Zm.out); rintro e w' ⟨rfl, ⟨nd, rfl⟩⟩; (try first | exact ⟨rfl, _, World.drewN_drewN _ _ _⟩ | exact ⟨rfl, _, Eq.trans (World.drewN_drewN _ _ _) (congrArg (World.drewN _) (Nat.add_assoc _ _ _))⟩))); try go_wp2_with (first | (go_at_call 39; (with_reducible refine (gatehouseref11_equal.calls k2 _ _ (rd_L3 l0 (rd Za Zc)) _ _ (rd_L3 l0 Zb) false _ ?Zp ?Zq ?Zr ?Zs A9.out).mono ?_); (case Zp => repeat (first | exact (Kd.C_below Zi.out HB.out) | (with_reducible refine Kd.C_alloc ?_ _) | (with_reducible refine Kd.C_drewN ?_ _) | (with_reducible refine Kd.C_drew ?_))); (case Zq => exact Zj.out); (case Zr => repeat (first | exact (Kd.C_below Zl.out HB.out) | (with_reducible refine Kd.C_alloc ?_ _) | (with_reducible refine Kd.C_drewN ?_ _) | (with_reducible refine Kd.C_drew ?_))); (case Zs => exact Zm.out); rintro e w' ⟨rfl, ⟨nd, rfl⟩⟩; (try first | exact ⟨rfl, _, World.drewN_drewN _ _ _⟩ | exact ⟨rfl, _, Eq.trans (World.drewN_drewN _ _ _) (congrArg (World.drewN _) (Nat.add_assoc _ _ _))⟩))))
             go_roundg k2
             case measure => have := HK1.out; have := HK2.out; omega
             case rel => exact ⟨(Zn), (wrap64 (Zc + 1)), (by first | rfl | (simp; done) | (simp [*]; done)), (by first | rfl | (simp; done) | (simp [*]; done)), H', ⟨by have := HK1.out; have := HK2.out; omega⟩, ⟨by (with_reducible repeat (first | apply Kd.R_alloc | apply Kd.R_drewN | apply Kd.R_drew)); exact Ze.out⟩, ⟨by (with_reducible repeat (first | apply Kd.R_alloc | apply Kd.R_drewN | apply Kd.R_drew)); exact Zd.out⟩, ⟨by repeat (first | (with_reducible first | exact HB.out | apply below_alloc | apply pw_below_drewN | apply below_drew1) | exact HB.out)⟩⟩
           ·rw [if_neg c8] at H
            exact absurd H (by simp)
          ·rw [if_neg c7] at H
           exact absurd H (by simp)
         ·rw [if_neg c6] at H
          exact absurd H (by simp)
        ·rw [if_neg c5] at H
         exact absurd H (by simp)
       ·rw [if_neg c4] at H
        exact absurd H (by simp)
      ·rw [if_neg c3] at H
       have c3b0 : decide (Zc < (Za.length : Int)) = false := decide_eq_false c3
       clear c3
       by_cases c13 : Zn = 0
       ·rw [if_pos c13] at H
        have c13b0 : (Zn == 0) = true := beq_iff_eq.mpr c13
        have c13b1 : (Zn != 0) = false := bne_eq_false_iff_eq.mpr c13
        clear c13
        by_cases c14 : Za.length < 17592186044416
        ·rw [if_pos c14] at H
         have ZI := jA c14
         clear c14
         obtain ⟨Zo, Zx⟩ : ∃ y_ : List Int, y_ = (Za ++ [Zb]) := ⟨_, rfl⟩
         replace H : (if Zg.length < 17592186044416 then (gatehouseref11_classes.l0 k2 l0 (Zg ++ [(Zo.length : Int)]) Zo (wrap64 (Zb + 1))) else (none)) = some (r1, r2) := by first | (rw [Zx]; with_reducible exact H) | (have H2_ := (Option.bind_some _ _).symm.trans H; rw [Zx]; with_reducible exact H2_) | (have H2_ := (Option.bind_some _ _).symm.trans H; with_reducible exact H2_) | with_reducible exact H | (rw [Zx]; exact H) | exact H
         have ZJ := jA Zx
         clear Zx
         by_cases c15 : Zg.length < 17592186044416
         ·rw [if_pos c15] at H
          have ZK := jA c15
          clear c15
          obtain ⟨Z7, Zy⟩ : ∃ y_ : List Int, y_ = (Zg ++ [(Zo.length : Int)]) := ⟨_, rfl⟩
          replace H : (gatehouseref11_classes.l0 k2 l0 Z7 Zo (wrap64 (Zb + 1))) = some (r1, r2) := by first | (rw [Zy]; with_reducible exact H) | (have H2_ := (Option.bind_some _ _).symm.trans H; rw [Zy]; with_reducible exact H2_) | (have H2_ := (Option.bind_some _ _).symm.trans H; with_reducible exact H2_) | with_reducible exact H | (rw [Zy]; exact H) | exact H
          have ZL := jA Zy
          clear Zy
          have H' := jA H
          clear H
          obtain ⟨Z2, Z3, Ye⟩ := Kd.R_slice Zd.out
          subst Ye
          go_wp2_with (first | ((with_reducible refine gate_builtin (b := .append) (xs := #[.tmp 39, .tmp 41]) rfl ?_); at_builtin; refine Kd.R_append (Kd.int .i64) (w0 := w) w.heap.size rfl (.tmp 39) (.tmp 41) 23 3 (.int .i64 0) 8 rfl Try.underlying23 info3 rfl (by decide) (by omega) (.slice Z2 Za.length Z3) Za Zb [.int .i64 Zb] (fun k_ => some k_ ≠ (u4 : Value).ownBlock) (fun _ => False) rfl rfl ?aP (fun _ hk => hk.elim) ?aF ?aO ?aB ?aS ?aL ?_; (case aP => exact rfl); (case aB => exact (by repeat (first | (with_reducible first | exact HB.out | apply below_alloc | apply pw_below_drewN | apply below_drew1) | exact HB.out))); (case aF => exact (fun k_ hk => Kd.fresh' (Kd.R_lt (by (with_reducible repeat (first | apply Kd.R_alloc | apply Kd.R_drewN | apply Kd.R_drew)); exact Ze.out)) k_ hk)); (case aO => exact (by (with_reducible repeat (first | apply Kd.R_alloc | apply Kd.R_drewN | apply Kd.R_drew)); exact Zd.out)); (case aS => exact (below_size (by repeat (first | (with_reducible first | exact HB.out | apply below_alloc | apply pw_below_drewN | apply below_drew1) | exact HB.out)))); (case aL => have := ZI.out; omega); intro Z8 w17 ho hb hg hat; rw [← ZJ.out] at ho; have n0_ := jA (Kd.R_after (ok := (fun _ => True)) (by (with_reducible repeat (first | apply Kd.R_alloc | apply Kd.R_drewN | apply Kd.R_drew)); exact Kd.R_mono Ze.out (fun _ hk => ⟨trivial, hk⟩)) hg hat); have n1_ := jA (hb); have n2_ := jA (ho); clear Ze; clear HB; clear Zd; have Ze := n0_; have HB := n1_; have Zf := n2_; clear n0_ n1_ n2_; clear ho hb hg hat; obtain ⟨ZM, ZN, ZO⟩ := Kd.R_slice Zf.out; subst ZO) | ((with_reducible refine gate_builtin (b := .append) (xs := #[.tmp 45, .tmp 47]) rfl ?_); at_builtin; refine Kd.R_append (Kd.int .i64) (w0 := w) w.heap.size rfl (.tmp 45) (.tmp 47) 23 3 (.int .i64 0) 8 rfl Try.underlying23 info3 rfl (by decide) (by omega) u4 Zg (Zo.length : Int) [.int .i64 (Zo.length : Int)] (fun k_ => some k_ ≠ (.slice ZM Zo.length ZN : Value).ownBlock) (fun _ => False) rfl rfl ?aP (fun _ hk => hk.elim) ?aF ?aO ?aB ?aS ?aL ?_; (case aP => exact rfl); (case aB => exact (by repeat (first | (with_reducible first | exact HB.out | apply below_alloc | apply pw_below_drewN | apply below_drew1) | exact HB.out))); (case aF => exact (fun k_ hk => Kd.fresh' (Kd.R_lt (by (with_reducible repeat (first | apply Kd.R_alloc | apply Kd.R_drewN | apply Kd.R_drew)); exact Zf.out)) k_ hk)); (case aO => exact (by (with_reducible repeat (first | apply Kd.R_alloc | apply Kd.R_drewN | apply Kd.R_drew)); exact Kd.R_mono Ze.out (fun _ hk => hk.2))); (case aS => exact (below_size (by repeat (first | (with_reducible first | exact HB.out | apply below_alloc | apply pw_below_drewN | apply below_drew1) | exact HB.out)))); (case aL => have := ZK.out; omega); intro Z9 w19 ho hb hg hat; rw [← ZL.out] at ho; have n0_ := jA (Kd.R_after (ok := (fun _ => True)) (by (with_reducible repeat (first | apply Kd.R_alloc | apply Kd.R_drewN | apply Kd.R_drew)); exact Kd.R_mono Zf.out (fun _ hk => ⟨trivial, hk⟩)) hg hat); have n1_ := jA (hb); have n2_ := jA (ho); clear Zf; clear HB; clear Ze; have Zf := n0_; have HB := n1_; have ZP := n2_; clear n0_ n1_ n2_; clear ho hb hg hat))
          repeat (go_quiet (first | ((with_reducible refine gate_builtin (b := .append) (xs := #[.tmp 39, .tmp 41]) rfl ?_); at_builtin; refine Kd.R_append (Kd.int .i64) (w0 := w) w.heap.size rfl (.tmp 39) (.tmp 41) 23 3 (.int .i64 0) 8 rfl Try.underlying23 info3 rfl (by decide) (by omega) (.slice Z2 Za.length Z3) Za Zb [.int .i64 Zb] (fun k_ => some k_ ≠ (u4 : Value).ownBlock) (fun _ => False) rfl rfl ?aP (fun _ hk => hk.elim) ?aF ?aO ?aB ?aS ?aL ?_; (case aP => exact rfl); (case aB => exact (by repeat (first | (with_reducible first | exact HB.out | apply below_alloc | apply pw_below_drewN | apply below_drew1) | exact HB.out))); (case aF => exact (fun k_ hk => Kd.fresh' (Kd.R_lt (by (with_reducible repeat (first | apply Kd.R_alloc | apply Kd.R_drewN | apply Kd.R_drew)); exact Ze.out)) k_ hk)); (case aO => exact (by (with_reducible repeat (first | apply Kd.R_alloc | apply Kd.R_drewN | apply Kd.R_drew)); exact Zd.out)); (case aS => exact (below_size (by repeat (first | (with_reducible first | exact HB.out | apply below_alloc | apply pw_below_drewN | apply below_drew1) | exact HB.out)))); (case aL => have := ZI.out; omega); intro Z8 w17 ho hb hg hat; rw [← ZJ.out] at ho; have n0_ := jA (Kd.R_after (ok := (fun _ => True)) (by (with_reducible repeat (first | apply Kd.R_alloc | apply Kd.R_drewN | apply Kd.R_drew)); exact Kd.R_mono Ze.out (fun _ hk => ⟨trivial, hk⟩)) hg hat); have n1_ := jA (hb); have n2_ := jA (ho); clear Ze; clear HB; clear Zd; have Ze := n0_; have HB := n1_; have Zf := n2_; clear n0_ n1_ n2_; clear ho hb hg hat; obtain ⟨ZM, ZN, ZO⟩ := Kd.R_slice Zf.out; subst ZO) | ((with_reducible refine gate_builtin (b := .append) (xs := #[.tmp 45, .tmp 47]) rfl ?_); at_builtin; refine Kd.R_append (Kd.int .i64) (w0 := w) w.heap.size rfl (.tmp 45) (.tmp 47) 23 3 (.int .i64 0) 8 rfl Try.underlying23 info3 rfl (by decide) (by omega) u4 Zg (Zo.length : Int) [.int .i64 (Zo.length : Int)] (fun k_ => some k_ ≠ (.slice ZM Zo.length ZN : Value).ownBlock) (fun _ => False) rfl rfl ?aP (fun _ hk => hk.elim) ?aF ?aO ?aB ?aS ?aL ?_; (case aP => exact rfl); (case aB => exact (by repeat (first | (with_reducible first | exact HB.out | apply below_alloc | apply pw_below_drewN | apply below_drew1) | exact HB.out))); (case aF => exact (fun k_ hk => Kd.fresh' (Kd.R_lt (by (with_reducible repeat (first | apply Kd.R_alloc | apply Kd.R_drewN | apply Kd.R_drew)); exact Zf.out)) k_ hk)); (case aO => exact (by (with_reducible repeat (first | apply Kd.R_alloc | apply Kd.R_drewN | apply Kd.R_drew)); exact Kd.R_mono Ze.out (fun _ hk => hk.2))); (case aS => exact (below_size (by repeat (first | (with_reducible first | exact HB.out | apply below_alloc | apply pw_below_drewN | apply below_drew1) | exact HB.out)))); (case aL => have := ZK.out; omega); intro Z9 w19 ho hb hg hat; rw [← ZL.out] at ho; have n0_ := jA (Kd.R_after (ok := (fun _ => True)) (by (with_reducible repeat (first | apply Kd.R_alloc | apply Kd.R_drewN | apply Kd.R_drew)); exact Kd.R_mono Zf.out (fun _ hk => ⟨trivial, hk⟩)) hg hat); have n1_ := jA (hb); have n2_ := jA (ho); clear Zf; clear HB; clear Ze; have Zf := n0_; have HB := n1_; have ZP := n2_; clear n0_ n1_ n2_; clear ho hb hg hat)); try go_wp2_with (first | ((with_reducible refine gate_builtin (b := .append) (xs := #[.tmp 39, .tmp 41]) rfl ?_); at_builtin; refine Kd.R_append (Kd.int .i64) (w0 := w) w.heap.size rfl (.tmp 39) (.tmp 41) 23 3 (.int .i64 0) 8 rfl Try.underlying23 info3 rfl (by decide) (by omega) (.slice Z2 Za.length Z3) Za Zb [.int .i64 Zb] (fun k_ => some k_ ≠ (u4 : Value).ownBlock) (fun _ => False) rfl rfl ?aP (fun _ hk => hk.elim) ?aF ?aO ?aB ?aS ?aL ?_; (case aP => exact rfl); (case aB => exact (by repeat (first | (with_reducible first | exact HB.out | apply below_alloc | apply pw_below_drewN | apply below_drew1) | exact HB.out))); (case aF => exact (fun k_ hk => Kd.fresh' (Kd.R_lt (by (with_reducible repeat (first | apply Kd.R_alloc | apply Kd.R_drewN | apply Kd.R_drew)); exact Ze.out)) k_ hk)); (case aO => exact (by (with_reducible repeat (first | apply Kd.R_alloc | apply Kd.R_drewN | apply Kd.R_drew)); exact Zd.out)); (case aS => exact (below_size (by repeat (first | (with_reducible first | exact HB.out | apply below_alloc | apply pw_below_drewN | apply below_drew1) | exact HB.out)))); (case aL => have := ZI.out; omega); intro Z8 w17 ho hb hg hat; rw [← ZJ.out] at ho; have n0_ := jA (Kd.R_after (ok := (fun _ => True)) (by (with_reducible repeat (first | apply Kd.R_alloc | apply Kd.R_drewN | apply Kd.R_drew)); exact Kd.R_mono Ze.out (fun _ hk => ⟨trivial, hk⟩)) hg hat); have n1_ := jA (hb); have n2_ := jA (ho); clear Ze; clear HB; clear Zd; have Ze := n0_; have HB := n1_; have Zf := n2_; clear n0_ n1_ n2_; clear ho hb hg hat; obtain ⟨ZM, ZN, ZO⟩ := Kd.R_slice Zf.out; subst ZO) | ((with_reducible refine gate_builtin (b := .append) (xs := #[.tmp 45, .tmp 47]) rfl ?_); at_builtin; refine Kd.R_append (Kd.int .i64) (w0 := w) w.heap.size rfl (.tmp 45) (.tmp 47) 23 3 (.int .i64 0) 8 rfl Try.underlying23 info3 rfl (by decide) (by omega) u4 Zg (Zo.length : Int) [.int .i64 (Zo.length : Int)] (fun k_ => some k_ ≠ (.slice ZM Zo.length ZN : Value).ownBlock) (fun _ => False) rfl rfl ?aP (fun _ hk => hk.elim) ?aF ?aO ?aB ?aS ?aL ?_; (case aP => exact rfl); (case aB => exact (by repeat (first | (with_reducible first | exact HB.out | apply below_alloc | apply pw_below_drewN | apply below_drew1) | exact HB.out))); (case aF => exact (fun k_ hk => Kd.fresh' (Kd.R_lt (by (with_reducible repeat (first | apply Kd.R_alloc | apply Kd.R_drewN | apply Kd.R_drew)); exact Zf.out)) k_ hk)); (case aO => exact (by (with_reducible repeat (first | apply Kd.R_alloc | apply Kd.R_drewN | apply Kd.R_drew)); exact Kd.R_mono Ze.out (fun _ hk => hk.2))); (case aS => exact (below_size (by repeat (first | (with_reducible first | exact HB.out | apply below_alloc | apply pw_below_drewN | apply below_drew1) | exact HB.out)))); (case aL => have := ZK.out; omega); intro Z9 w19 ho hb hg hat; rw [← ZL.out] at ho; have n0_ := jA (Kd.R_after (ok := (fun _ => True)) (by (with_reducible repeat (first | apply Kd.R_alloc | apply Kd.R_drewN | apply Kd.R_drew)); exact Kd.R_mono Zf.out (fun _ hk => ⟨trivial, hk⟩)) hg hat); have n1_ := jA (hb); have n2_ := jA (ho); clear Zf; clear HB; clear Ze; have Zf := n0_; have HB := n1_; have ZP := n2_; clear n0_ n1_ n2_; clear ho hb hg hat)))
          go_roundg k2
          case measure => have := HK1.out; have := HK2.out; omega
          case rel => exact ⟨(Z7), (Zo), (wrap64 (Zb + 1)), (by first | rfl | (simp; done) | (simp [*]; done)), H', ⟨by have := HK1.out; have := HK2.out; omega⟩, ⟨by (with_reducible repeat (first | apply Kd.R_alloc | apply Kd.R_drewN | apply Kd.R_drew)); exact ZP.out⟩, ⟨by (with_reducible repeat (first | apply Kd.R_alloc | apply Kd.R_drewN | apply Kd.R_drew)); exact Kd.R_mono Zf.out (fun _ hk => hk.2)⟩, ⟨by repeat (first | (with_reducible first | exact HB.out | apply below_alloc | apply pw_below_drewN | apply below_drew1) | exact HB.out)⟩⟩
         ·rw [if_neg c15] at H
          exact absurd H (by simp)
        ·rw [if_neg c14] at H
         exact absurd H (by simp)
       ·rw [if_neg c13] at H
        have c13b0 : (Zn == 0) = false := beq_eq_false_iff_ne.mpr c13
        have c13b1 : (Zn != 0) = true := bne_iff_ne.mpr c13
        by_cases c20 : Zg.length < 17592186044416
        ·rw [if_pos c20] at H
         have ZQ := jA c20
         clear c20
         obtain ⟨Ya, Zz⟩ : ∃ y_ : List Int, y_ = (Zg ++ [Zn]) := ⟨_, rfl⟩
         replace H : (gatehouseref11_classes.l0 k2 l0 Ya Za (wrap64 (Zb + 1))) = some (r1, r2) := by first | (rw [Zz]; with_reducible exact H) | (have H2_ := (Option.bind_some _ _).symm.trans H; rw [Zz]; with_reducible exact H2_) | (have H2_ := (Option.bind_some _ _).symm.trans H; with_reducible exact H2_) | with_reducible exact H | (rw [Zz]; exact H) | exact H
         have ZR := jA Zz
         clear Zz
         have H' := jA H
         clear H
         obtain ⟨Z4, Z5, Yf⟩ := Kd.R_slice Zd.out
         subst Yf
         go_wp2_with (first | ((with_reducible refine gate_builtin (b := .append) (xs := #[.tmp 45, .tmp 47]) rfl ?_); at_builtin; refine Kd.R_append (Kd.int .i64) (w0 := w) w.heap.size rfl (.tmp 45) (.tmp 47) 23 3 (.int .i64 0) 8 rfl Try.underlying23 info3 rfl (by decide) (by omega) u4 Zg Zn [.int .i64 Zn] (fun k_ => some k_ ≠ (.slice Z4 Za.length Z5 : Value).ownBlock) (fun _ => False) rfl rfl ?aP (fun _ hk => hk.elim) ?aF ?aO ?aB ?aS ?aL ?_; (case aP => exact rfl); (case aB => exact (by repeat (first | (with_reducible first | exact HB.out | apply below_alloc | apply pw_below_drewN | apply below_drew1) | exact HB.out))); (case aF => exact (fun k_ hk => Kd.fresh' (Kd.R_lt (by (with_reducible repeat (first | apply Kd.R_alloc | apply Kd.R_drewN | apply Kd.R_drew)); exact Zd.out)) k_ hk)); (case aO => exact (by (with_reducible repeat (first | apply Kd.R_alloc | apply Kd.R_drewN | apply Kd.R_drew)); exact Ze.out)); (case aS => exact (below_size (by repeat (first | (with_reducible first | exact HB.out | apply below_alloc | apply pw_below_drewN | apply below_drew1) | exact HB.out)))); (case aL => have := ZQ.out; omega); intro Yb w22 ho hb hg hat; rw [← ZR.out] at ho; have n0_ := jA (Kd.R_after (ok := (fun _ => True)) (by (with_reducible repeat (first | apply Kd.R_alloc | apply Kd.R_drewN | apply Kd.R_drew)); exact Kd.R_mono Zd.out (fun _ hk => ⟨trivial, hk⟩)) hg hat); have n1_ := jA (hb); have n2_ := jA (ho); clear Zd; clear HB; clear Ze; have Zd := n0_; have HB := n1_; have ZS := n2_; clear n0_ n1_ n2_; clear ho hb hg hat))
         repeat (go_quiet (first | ((with_reducible refine gate_builtin (b := .append) (xs := #[.tmp 45, .tmp 47]) rfl ?_); at_builtin; refine Kd.R_append (Kd.int .i64) (w0 := w) w.heap.size rfl (.tmp 45) (.tmp 47) 23 3 (.int .i64 0) 8 rfl Try.underlying23 info3 rfl (by decide) (by omega) u4 Zg Zn [.int .i64 Zn] (fun k_ => some k_ ≠ (.slice Z4 Za.length Z5 : Value).ownBlock) (fun _ => False) rfl rfl ?aP (fun _ hk => hk.elim) ?aF ?aO ?aB ?aS ?aL ?_; (case aP => exact rfl); (case aB => exact (by repeat (first | (with_reducible first | exact HB.out | apply below_alloc | apply pw_below_drewN | apply below_drew1) | exact HB.out))); (case aF => exact (fun k_ hk => Kd.fresh' (Kd.R_lt (by (with_reducible repeat (first | apply Kd.R_alloc | apply Kd.R_drewN | apply Kd.R_drew)); exact Zd.out)) k_ hk)); (case aO => exact (by (with_reducible repeat (first | apply Kd.R_alloc | apply Kd.R_drewN | apply Kd.R_drew)); exact Ze.out)); (case aS => exact (below_size (by repeat (first | (with_reducible first | exact HB.out | apply below_alloc | apply pw_below_drewN | apply below_drew1) | exact HB.out)))); (case aL => have := ZQ.out; omega); intro Yb w22 ho hb hg hat; rw [← ZR.out] at ho; have n0_ := jA (Kd.R_after (ok := (fun _ => True)) (by (with_reducible repeat (first | apply Kd.R_alloc | apply Kd.R_drewN | apply Kd.R_drew)); exact Kd.R_mono Zd.out (fun _ hk => ⟨trivial, hk⟩)) hg hat); have n1_ := jA (hb); have n2_ := jA (ho); clear Zd; clear HB; clear Ze; have Zd := n0_; have HB := n1_; have ZS := n2_; clear n0_ n1_ n2_; clear ho hb hg hat)); try go_wp2_with (first | ((with_reducible refine gate_builtin (b := .append) (xs := #[.tmp 45, .tmp 47]) rfl ?_); at_builtin; refine Kd.R_append (Kd.int .i64) (w0 := w) w.heap.size rfl (.tmp 45) (.tmp 47) 23 3 (.int .i64 0) 8 rfl Try.underlying23 info3 rfl (by decide) (by omega) u4 Zg Zn [.int .i64 Zn] (fun k_ => some k_ ≠ (.slice Z4 Za.length Z5 : Value).ownBlock) (fun _ => False) rfl rfl ?aP (fun _ hk => hk.elim) ?aF ?aO ?aB ?aS ?aL ?_; (case aP => exact rfl); (case aB => exact (by repeat (first | (with_reducible first | exact HB.out | apply below_alloc | apply pw_below_drewN | apply below_drew1) | exact HB.out))); (case aF => exact (fun k_ hk => Kd.fresh' (Kd.R_lt (by (with_reducible repeat (first | apply Kd.R_alloc | apply Kd.R_drewN | apply Kd.R_drew)); exact Zd.out)) k_ hk)); (case aO => exact (by (with_reducible repeat (first | apply Kd.R_alloc | apply Kd.R_drewN | apply Kd.R_drew)); exact Ze.out)); (case aS => exact (below_size (by repeat (first | (with_reducible first | exact HB.out | apply below_alloc | apply pw_below_drewN | apply below_drew1) | exact HB.out)))); (case aL => have := ZQ.out; omega); intro Yb w22 ho hb hg hat; rw [← ZR.out] at ho; have n0_ := jA (Kd.R_after (ok := (fun _ => True)) (by (with_reducible repeat (first | apply Kd.R_alloc | apply Kd.R_drewN | apply Kd.R_drew)); exact Kd.R_mono Zd.out (fun _ hk => ⟨trivial, hk⟩)) hg hat); have n1_ := jA (hb); have n2_ := jA (ho); clear Zd; clear HB; clear Ze; have Zd := n0_; have HB := n1_; have ZS := n2_; clear n0_ n1_ n2_; clear ho hb hg hat)))
         go_roundg k2
         case measure => have := HK1.out; have := HK2.out; omega
         case rel => exact ⟨(Ya), (Za), (wrap64 (Zb + 1)), (by first | rfl | (simp; done) | (simp [*]; done)), H', ⟨by have := HK1.out; have := HK2.out; omega⟩, ⟨by (with_reducible repeat (first | apply Kd.R_alloc | apply Kd.R_drewN | apply Kd.R_drew)); exact ZS.out⟩, ⟨by (with_reducible repeat (first | apply Kd.R_alloc | apply Kd.R_drewN | apply Kd.R_drew)); exact Kd.R_mono Zd.out (fun _ hk => hk.2)⟩, ⟨by repeat (first | (with_reducible first | exact HB.out | apply below_alloc | apply pw_below_drewN | apply below_drew1) | exact HB.out)⟩⟩
        ·rw [if_neg c20] at H
         exact absurd H (by simp)
   ·rw [if_neg c2] at H
    have c2b0 : decide (Zb < (l0.length : Int)) = false := decide_eq_false c2
    clear c2
    simp only [Option.some.injEq, Prod.mk.injEq] at H
    obtain ⟨rfl, rfl⟩ := H
    go_wp2
    repeat (go_quiet (fail); try go_wp2)
    go_ret2
    exact ⟨_, _, by first | rfl | (simp [errW_none, errW_some] <;> rfl) | (simp [*, errW_none, errW_some] <;> rfl), by (with_reducible repeat (first | apply Kd.R_alloc | apply Kd.R_drewN | apply Kd.R_drew)); exact Ze.out, by (with_reducible repeat (first | apply Kd.R_alloc | apply Kd.R_drewN | apply Kd.R_drew)); exact Zd.out, by repeat (first | (with_reducible first | exact HB.out | apply below_alloc | apply pw_below_drewN | apply below_drew1) | exact HB.out)⟩
end Go.Proofs.Ythaiodklfoegiaa.PG
/- The document's classes of a matrix' lines, in plain words. -/
namespace Go.Proofs.Ythaiodklfoegiaa.RPure
open Go.RowKit PG YthaiodklfoegiaaW.PrintWords YthaiodklfoegiaaW.PrintMore VPure CPure
section
variable {α β : Type} [DecidableEq α] [DecidableEq β]
theorem uniq_nodup (ls : List α) : (uniq ls).Nodup := by
 refine snoc_ind (P := fun ls => (uniq ls).Nodup) (by simp [uniq]) (fun l x ih => ?_) ls
 rw [uniq_snoc, one1]
 split
 ·exact ih
 ·rename_i h
  rw [List.nodup_append]
  exact ⟨ih, by simp, by rintro a ha b hb rfl; rw [List.mem_singleton] at hb; subst hb; exact h ha⟩
theorem idxOf_inj (f : α → β) (x : α) : ∀ L : List α, (∀ y ∈ L, f y = f x → y = x) → (L.map f).idxOf (f x) = L.idxOf x
 | [], _ => rfl
 | a :: L, h => by
  rw [List.map_cons, List.idxOf_cons, List.idxOf_cons]
  by_cases e : a = x
  ·subst e; simp
  ·have e' : f a ≠ f x := fun he => e (h a (by simp) he)
   rw [beq_false_of_ne e, beq_false_of_ne e', idxOf_inj f x L (fun y hy => h y (by simp [hy]))]
theorem uniq_inj (f : α → β) (ls : List α) : (∀ a ∈ ls, ∀ b ∈ ls, f a = f b → a = b) → uniq (ls.map f) = (uniq ls).map f := by
 refine snoc_ind (P := fun ls => (∀ a ∈ ls, ∀ b ∈ ls, f a = f b → a = b) → uniq (ls.map f) = (uniq ls).map f) (by simp [uniq]) (fun l x ih => fun h => ?_) ls
 have ih := ih (fun a ha b hb => h a (by simp [ha]) b (by simp [hb]))
 rw [List.map_append, List.map_singleton, uniq_snoc, uniq_snoc, ih, one1, one1]
 have hi : f x ∈ (uniq l).map f ↔ x ∈ uniq l := by
  constructor
  ·intro hm
   obtain ⟨y, hy, e⟩ := List.mem_map.1 hm
   rw [← h y (by simp [mem_uniq.1 hy]) x (by simp) e]; exact hy
  ·exact fun hm => List.mem_map.2 ⟨x, hm, rfl⟩
 by_cases hx : x ∈ uniq l
 ·rw [if_pos hx, if_pos (hi.2 hx)]
 ·rw [if_neg hx, if_neg (fun e => hx (hi.1 e)), List.map_append, List.map_singleton]
theorem nums_inj (f : α → β) (ls : List α) (h : ∀ a ∈ ls, ∀ b ∈ ls, f a = f b → a = b) : numsOf (ls.map f) = numsOf ls ∧ firstsN (ls.map f) = firstsN ls := by
 constructor
 ·unfold numsOf
  rw [List.map_map]
  refine List.map_congr_left fun x hx => ?_
  simp only [Function.comp, num, clsN]
  rw [uniq_inj f ls h, idxOf_inj f x _ (fun y hy e => h y (mem_uniq.1 hy) x hx e)]
 ·unfold firstsN
  rw [uniq_inj f ls h, List.map_map]
  refine List.map_congr_left fun x hx => ?_
  simp only [Function.comp]
  exact idxOf_inj f x _ (fun y hy e => h y hy x (mem_uniq.1 hx) e)
omit [DecidableEq β] in
theorem firstsN_get (ls : List α) (m : Nat) (hm : m < (uniq ls).length) : ∃ q, ∃ h : q < ls.length, (firstsN ls)[m]? = some q ∧ ls[q] = (uniq ls)[m] := by
 have hmem : (uniq ls)[m] ∈ ls := mem_uniq.1 (List.getElem_mem hm)
 have hq := List.idxOf_lt_length_of_mem hmem
 refine ⟨_, hq, ?_, List.getElem_idxOf hq⟩
 unfold firstsN
 rw [List.getElem?_map, List.getElem?_eq_getElem hm]
 rfl
omit [DecidableEq β] in
theorem num_at (ls : List α) (m : Nat) (hm : m < (uniq ls).length) : num ls (uniq ls)[m] = ((m + 1 : Nat) : Int) := by
 unfold num clsN
 rw [(uniq_nodup ls).idxOf_getElem]
end
def rowsM (n m : Nat) (M : Nat → Nat → Int) : List (List Int) := (List.range n).map fun a => (List.range m).map (M a)
theorem rows_lines (n m : Nat) (M : Nat → Nat → Int) (hm : m ≤ 64) : rowsM n m M = (lines n m M).map (List.take m) := by
 unfold rowsM lines
 rw [List.map_map]
 refine List.map_congr_left fun a _ => ?_
 refine List.ext_getElem? fun j => ?_
 simp only [Function.comp]
 rw [List.getElem?_take]
 by_cases h : j < m
 ·have h64 : j < 64 := by omega
  simp [h, h64, fill]
 ·simp [h]
theorem lines_inj {n m : Nat} {M : Nat → Nat → Int} (hm : m ≤ 64) : ∀ a ∈ lines n m M, ∀ b ∈ lines n m M, List.take m a = List.take m b → a = b := by
 intro a ha b hb e
 obtain ⟨i, _, rfl⟩ := List.mem_map.1 ha
 obtain ⟨k, _, rfl⟩ := List.mem_map.1 hb
 refine List.map_congr_left fun j hj => ?_
 unfold fill
 split
 ·rename_i h
  have := congrArg (fun l => l[j]?) e
  simp only [List.getElem?_take, h, if_true] at this
  have h64 : j < 64 := by omega
  simpa [h64, fill, h] using this
 ·rfl
theorem rows_nums (n m : Nat) (M : Nat → Nat → Int) (hm : m ≤ 64) : numsOf (rowsM n m M) = ofM n m M ∧ firstsN (rowsM n m M) = firstsN (lines n m M) := by
 rw [rows_lines n m M hm]
 exact nums_inj (List.take m) _ (lines_inj hm)
section
variable {ls : List (List Int)} (hl : ls.length ≤ 64) (hr : ∀ r ∈ ls, r.length ≤ 64)
def cAt (L : List (List Int)) (x : List Int) (m : Nat) : Int := if x ∈ (uniq L).take m then num L x else 0
theorem firsts_at {n m : Nat} (hn : n ≤ ls.length) (hm : m < (uniq (ls.take n)).length) : ∃ q, ∃ h : q < ls.length, (firstsOf (ls.take n))[m]? = some (q : Int) ∧ ls[q] = (uniq (ls.take n))[m] := by
 obtain ⟨q, h, e1, e2⟩ := firstsN_get _ m hm
 have hq : q < ls.length := by rw [List.length_take] at h; omega
 refine ⟨q, hq, ?_, ?_⟩
 ·unfold firstsOf
  rw [List.getElem?_map, e1]
  rfl
 ·rw [← e2, List.getElem_take]
include hl hr
theorem classes_l1 {n : Nat} (hn : n < ls.length) {r : List Int × List Int} (hnext : Ev (fun k => gatehouseref11_classes.l0 k ls (numsOf (ls.take (n + 1))) (firstsOf (ls.take (n + 1))) ((n + 1 : Nat) : Int)) r) :
  ∀ (d m : Nat), m + d = (uniq (ls.take n)).length → Ev (fun k => gatehouseref11_classes.l1 k ls (numsOf (ls.take n)) (firstsOf (ls.take n)) n (cAt (ls.take n) ls[n] m) m) r
 | 0, m, h => by
  have hF : (firstsOf (ls.take n)).length = (uniq (ls.take n)).length := firstsOf_length _
  have hU := uniq_length (ls.take n)
  have hA : (numsOf (ls.take n)).length = (ls.take n).length := by simp [numsOf]
  have hT : (ls.take n).length = n := by rw [List.length_take]; omega
  refine Ev.step (fun k => ?_) hnext
  simp only [gatehouseref11_classes.l1]
  have hw : wrap64 ((n : Int) + 1) = ((n + 1 : Nat) : Int) := by unfold wrap64; omega
  rw [if_neg (by rw [hF]; omega), List.take_succ_eq_append_getElem hn, numsOf_snoc]
  unfold cAt
  rw [List.take_of_length_le (by omega)]
  by_cases hx : ls[n] ∈ uniq (ls.take n)
  ·have hx' := mem_uniq.1 hx
   have hp := num_pos (ls.take n) ls[n]
   rw [if_pos hx, if_neg (by omega), if_pos (by omega), firstsOf_old hx', hw, num_old hx']
  ·have hx' : ls[n] ∉ ls.take n := fun e => hx (mem_uniq.2 e)
   rw [if_neg hx, if_pos rfl, if_pos (by omega), Option.bind_some, if_pos (by omega), firstsOf_new hx', num_new hx', hw, hT]
   simp only [List.length_append, List.length_singleton, hF]
 | d + 1, m, h => by
  have hF : (firstsOf (ls.take n)).length = (uniq (ls.take n)).length := firstsOf_length _
  have hU := uniq_length (ls.take n)
  have hT : (ls.take n).length = n := by rw [List.length_take]; omega
  have hm : m < (uniq (ls.take n)).length := by omega
  obtain ⟨q, hq, e1, e2⟩ := firsts_at (by omega) hm
  have hrd : rd (firstsOf (ls.take n)) (m : Int) = (q : Int) := by
   have hmf : m < (firstsOf (ls.take n)).length := by omega
   rw [rd_get _ _ hmf]
   rw [List.getElem?_eq_getElem hmf] at e1
   exact Option.some.inj e1
  have hw : wrap64 ((m : Int) + 1) = ((m + 1 : Nat) : Int) := by unfold wrap64; omega
  have hlen : (uniq (ls.take n))[m].length ≤ 64 := hr _ (e2 ▸ List.getElem_mem hq)
  have hEq := equal_f (uniq (ls.take n))[m] ls[n] (by omega)
  have hc : ∀ k, gatehouseref11_classes.l1 (k + 1) ls (numsOf (ls.take n)) (firstsOf (ls.take n)) n (cAt (ls.take n) ls[n] m) m = ((gatehouseref11_equal.f k (uniq (ls.take n))[m] ls[n]).bind fun t161 => (if t161 = true then (gatehouseref11_classes.l1 k ls (numsOf (ls.take n)) (firstsOf (ls.take n)) n ((m + 1 : Nat) : Int) ((m + 1 : Nat) : Int)) else (gatehouseref11_classes.l1 k ls (numsOf (ls.take n)) (firstsOf (ls.take n)) n (cAt (ls.take n) ls[n] m) ((m + 1 : Nat) : Int)))) := by
   intro k
   simp only [gatehouseref11_classes.l1]
   rw [if_pos (by rw [hF]; omega), if_pos (by omega), hrd, if_pos (by omega), if_pos (by omega), if_pos (by omega), if_pos (by omega), rd_L3_get _ _ hq, rd_L3_get _ _ hn, e2, hw]
  refine Ev.step (f := fun k => (gatehouseref11_equal.f k (uniq (ls.take n))[m] ls[n]).bind fun t161 => (if t161 = true then (gatehouseref11_classes.l1 k ls (numsOf (ls.take n)) (firstsOf (ls.take n)) n ((m + 1 : Nat) : Int) ((m + 1 : Nat) : Int)) else (gatehouseref11_classes.l1 k ls (numsOf (ls.take n)) (firstsOf (ls.take n)) n (cAt (ls.take n) ls[n] m) ((m + 1 : Nat) : Int)))) hc ?_
  refine Ev.bind hEq ?_
  have ih := classes_l1 hn hnext d (m + 1) (by omega)
  by_cases hx : (uniq (ls.take n))[m] = ls[n]
  ·rw [decide_eq_true hx]
   simp only [if_true]
   have hcm : cAt (ls.take n) ls[n] (m + 1) = ((m + 1 : Nat) : Int) := by
    unfold cAt
    rw [if_pos (by rw [List.take_succ_eq_append_getElem hm, List.mem_append]; exact .inr (by simp [hx])), ← hx, num_at _ _ hm]
   rw [hcm] at ih
   exact ih
  ·rw [decide_eq_false hx]
   simp only [Bool.false_eq_true, if_false]
   have hcm : cAt (ls.take n) ls[n] (m + 1) = cAt (ls.take n) ls[n] m := by
    unfold cAt
    have : ls[n] ∈ List.take (m + 1) (uniq (ls.take n)) ↔ ls[n] ∈ List.take m (uniq (ls.take n)) := by
     rw [List.take_succ_eq_append_getElem hm, List.mem_append, List.mem_singleton]
     constructor
     ·rintro (h1 | h1)
      ·exact h1
      ·exact absurd h1.symm hx
     ·exact .inl
    by_cases h2 : ls[n] ∈ List.take m (uniq (ls.take n))
    ·rw [if_pos h2, if_pos (this.2 h2)]
    ·rw [if_neg h2, if_neg (fun e => h2 (this.1 e))]
   rw [hcm] at ih
   exact ih
theorem classes_l0 : ∀ (d n : Nat), n + d = ls.length → Ev (fun k => gatehouseref11_classes.l0 k ls (numsOf (ls.take n)) (firstsOf (ls.take n)) n) (numsOf ls, firstsOf ls)
 | 0, n, h => by
  rw [List.take_of_length_le (by omega)]
  refine Ev.step (f := fun _ => some _) (fun k => ?_) (Ev.now _)
  simp only [gatehouseref11_classes.l0]
  rw [if_neg (by omega)]
 | d + 1, n, h => by
  have hn : n < ls.length := by omega
  have h1 := classes_l1 hl hr hn (classes_l0 d (n + 1) (by omega)) (uniq (ls.take n)).length 0 (by omega)
  refine Ev.step (fun k => ?_) h1
  simp only [gatehouseref11_classes.l0]
  rw [if_pos (by omega)]
  simp [cAt]
theorem classes_f : ∃ k, gatehouseref11_classes.f k ls = some (numsOf ls, firstsOf ls) := (classes_l0 hl hr ls.length 0 (by omega)).rounds
end
end Go.Proofs.Ythaiodklfoegiaa.RPure
namespace Go.Proofs.Ythaiodklfoegiaa.PG
open YthaiodklfoegiaaF
attribute [local go_sem high] run_feq run_fne run_flt_lt run_flt_le run_flt_gt run_flt_ge
open Go.RowKit YthaiodklfoegiaaW.PrintWords YthaiodklfoegiaaW.PrintLast YthaiodklfoegiaaW.PrintMore
attribute [local go_sem] max2_int min2_int max_two min_two max_three min_three max_four min_four
mutual
def gatehouselaw11_word.l0 : Nat → Int → Int → ByteArray → Int → Option (ByteArray)
 | 0, _, _, _, _ => none
 | k + 1, x0, x1, x5, x6 => if x6 < x0 then (if x5.size + 1 ≤ 9223372036854775807 then (gatehouselaw11_word.l0 k x0 x1 (x5 ++ (⟨#[43]⟩ : ByteArray)) (wrap64 (x6 + 1))) else (none)) else (gatehouselaw11_word.l1 k x1 x5 0)
def gatehouselaw11_word.l1 : Nat → Int → ByteArray → Int → Option (ByteArray)
 | 0, _, _, _ => none
 | k + 1, x1, x5, x7 => if x7 < x1 then (if x5.size + 1 ≤ 9223372036854775807 then (gatehouselaw11_word.l1 k x1 (x5 ++ (⟨#[46]⟩ : ByteArray)) (wrap64 (x7 + 1))) else (none)) else (some x5)
end
def gatehouselaw11_word.f (k : Nat) (a0 : Int) (a1 : Int) : Option (ByteArray) := gatehouselaw11_word.l0 k a0 a1 (⟨#[35]⟩ : ByteArray) 0
theorem gatehouselaw11_word.calls (k : Nat) (a0 : Int) (a1 : Int) (r : ByteArray) (w : World) (h : gatehouselaw11_word.f k a0 a1 = some r) :
  Calls Try.prog 55 #[.int .i64 a0, .int .i64 a1] w fun e w' => e = .returned (.string r) ∧ Drawn0 w w' := by
 have H : (gatehouselaw11_word.l0 k a0 a1 (⟨#[35]⟩ : ByteArray) 0) = some r := h
 clear h
 have H' := jA H
 clear H
 go_enter Try.func55, Try.ntmps55
 go_wp2
 go_loopg [5, 6] k (fun kq v5 v6 w' => ∃ (Za : ByteArray) (Zb : Int), v5 = .string Za ∧ v6 = .int .i64 Zb ∧ Aside0 (gatehouselaw11_word.l0 kq a0 a1 Za Zb = some r) ∧ Aside0 (kq ≤ k) ∧ Drawn0 w w')
 case atStart => exact ⟨((⟨#[35]⟩ : ByteArray)), (0), (by first | rfl | (simp; done) | (simp [*]; done)), (by first | rfl | (simp; done) | (simp [*]; done)), H', ⟨Nat.le_refl _⟩, by repeat (first | exact Drawn0.refl _ | apply Drawn0.step)⟩
 case round =>
  clear H'
  try clear p2
  obtain ⟨Za, Zb, rfl, rfl, HA, HK1, ⟨m1, rfl⟩⟩ := hrel
  cases gk with
  | zero => exact absurd HA.out (by simp [gatehouselaw11_word.l0])
  | succ k1 =>
   have H := HA.out
   clear HA
   simp only [gatehouselaw11_word.l0] at H
   by_cases c3 : Zb < a0
   ·rw [if_pos c3] at H
    have c3b0 : decide (Zb < a0) = true := decide_eq_true c3
    clear c3
    by_cases c4 : Za.size + 1 ≤ 9223372036854775807
    ·rw [if_pos c4] at H
     have c4b0 := eq_true c4
     have c4b1 : decide (Za.size + 1 ≤ 9223372036854775807) = true := decide_eq_true c4
     try have c4b2 : (9223372036854775807 < Za.size + 1) = False := eq_false (Nat.not_lt.2 c4)
     have H' := jA H
     clear H
     go_wp2
     go_roundg k1
     case measure => have := HK1.out; omega
     case rel => exact ⟨(Za ++ (⟨#[43]⟩ : ByteArray)), (wrap64 (Zb + 1)), (by first | rfl | (simp; done) | (simp [*]; done)), (by first | rfl | (simp; done) | (simp [*]; done)), H', ⟨by have := HK1.out; omega⟩, by repeat (first | exact Drawn0.refl _ | apply Drawn0.step)⟩
    ·rw [if_neg c4] at H
     exact absurd H (by simp)
   ·rw [if_neg c3] at H
    have c3b0 : decide (Zb < a0) = false := decide_eq_false c3
    clear c3
    have H' := jA H
    clear H
    go_wp2
    go_loopg [5, 7] k1 (fun kq v5 v7 w' => ∃ (Zc : ByteArray) (Zd : Int), v5 = .string Zc ∧ v7 = .int .i64 Zd ∧ Aside0 (gatehouselaw11_word.l1 kq a1 Zc Zd = some r) ∧ Aside0 (kq ≤ k1) ∧ Drawn0 w w')
    case atStart => exact ⟨(Za), (0), (by first | rfl | (simp; done) | (simp [*]; done)), (by first | rfl | (simp; done) | (simp [*]; done)), H', ⟨Nat.le_refl _⟩, by repeat (first | exact Drawn0.refl _ | apply Drawn0.step)⟩
    case round =>
     clear H'
     try clear p2
     try clear c3
     try clear c3b0
     try clear c4
     try clear c4b0
     try clear c4b1
     try clear c4b2
     try clear p2
     obtain ⟨Zc, Zd, rfl, rfl, HA, HK2, ⟨m2, rfl⟩⟩ := hrel
     cases gk with
     | zero => exact absurd HA.out (by simp [gatehouselaw11_word.l1])
     | succ k2 =>
      have H := HA.out
      clear HA
      simp only [gatehouselaw11_word.l1] at H
      by_cases c5 : Zd < a1
      ·rw [if_pos c5] at H
       have c5b0 : decide (Zd < a1) = true := decide_eq_true c5
       clear c5
       by_cases c6 : Zc.size + 1 ≤ 9223372036854775807
       ·rw [if_pos c6] at H
        have c6b0 := eq_true c6
        have c6b1 : decide (Zc.size + 1 ≤ 9223372036854775807) = true := decide_eq_true c6
        try have c6b2 : (9223372036854775807 < Zc.size + 1) = False := eq_false (Nat.not_lt.2 c6)
        have H' := jA H
        clear H
        go_wp2
        go_roundg k2
        case measure => have := HK1.out; have := HK2.out; omega
        case rel => exact ⟨(Zc ++ (⟨#[46]⟩ : ByteArray)), (wrap64 (Zd + 1)), (by first | rfl | (simp; done) | (simp [*]; done)), (by first | rfl | (simp; done) | (simp [*]; done)), H', ⟨by have := HK1.out; have := HK2.out; omega⟩, by repeat (first | exact Drawn0.refl _ | apply Drawn0.step)⟩
       ·rw [if_neg c6] at H
        exact absurd H (by simp)
      ·rw [if_neg c5] at H
       have c5b0 : decide (Zd < a1) = false := decide_eq_false c5
       clear c5
       obtain rfl := Option.some.inj H
       go_wp2
       go_ret
       exact ⟨by first | rfl | (simp; done) | (simp [*]; done), by repeat (first | exact Drawn0.refl _ | apply Drawn0.step)⟩
end Go.Proofs.Ythaiodklfoegiaa.PG
namespace Go.Proofs.Ythaiodklfoegiaa.PG
open YthaiodklfoegiaaF
attribute [local go_sem high] run_feq run_fne run_flt_lt run_flt_le run_flt_gt run_flt_ge
open Go.RowKit YthaiodklfoegiaaW.PrintWords YthaiodklfoegiaaW.PrintLast YthaiodklfoegiaaW.PrintMore
attribute [local go_sem] max2_int min2_int max_two min_two max_three min_three max_four min_four
def gatehouselaw11_number.f (a0 : Int) (a1 : Int) : Option (Int) := some (wrap64 ((wrap64 ((-1000) * a0)) - a1))
theorem gatehouselaw11_number.calls (a0 : Int) (a1 : Int) (r : Int) (w : World) (h : gatehouselaw11_number.f a0 a1 = some r) :
  Calls Try.prog 56 #[.int .i64 a0, .int .i64 a1] w fun e w' => e = .returned (.int .i64 r) ∧ Drawn0 w w' := by
 have H : (some (wrap64 ((wrap64 ((-1000) * a0)) - a1))) = some r := h
 clear h
 obtain rfl := Option.some.inj H
 go_enter Try.func56, Try.ntmps56
 go_wp2
 go_ret
 exact ⟨by first | rfl | (simp; done) | (simp [*]; done), by repeat (first | exact Drawn0.refl _ | apply Drawn0.step)⟩
end Go.Proofs.Ythaiodklfoegiaa.PG
namespace Go.Proofs.Ythaiodklfoegiaa.PG
open YthaiodklfoegiaaF
attribute [local go_sem high] run_feq run_fne run_flt_lt run_flt_le run_flt_gt run_flt_ge
open Go.RowKit YthaiodklfoegiaaW.PrintWords YthaiodklfoegiaaW.PrintLast YthaiodklfoegiaaW.PrintMore
attribute [local go_sem] max2_int min2_int max_two min_two max_three min_three max_four min_four
def gatehouselaw11_mask.f (a0 : Int) (a1 : Int) : Option (Int) := some (IntKind.u16.wrap (wrap64 ((wrap64 ((wrap64 (1000 * a0)) + a1)) + 7)))
theorem gatehouselaw11_mask.calls (a0 : Int) (a1 : Int) (r : Int) (w : World) (h : gatehouselaw11_mask.f a0 a1 = some r) :
  Calls Try.prog 57 #[.int .i64 a0, .int .i64 a1] w fun e w' => e = .returned (.int .u16 r) ∧ Drawn0 w w' := by
 have H : (some (IntKind.u16.wrap (wrap64 ((wrap64 ((wrap64 (1000 * a0)) + a1)) + 7)))) = some r := h
 clear h
 obtain rfl := Option.some.inj H
 go_enter Try.func57, Try.ntmps57
 go_wp2
 go_ret
 exact ⟨by first | rfl | (simp; done) | (simp [*]; done), by repeat (first | exact Drawn0.refl _ | apply Drawn0.step)⟩
end Go.Proofs.Ythaiodklfoegiaa.PG
/- Families of rows, each its holder's own; rows that are marked: plain facts for gatehouselaw11.mark, whole. -/
namespace Go.Proofs.Ythaiodklfoegiaa.OMark
open Go.RowKit YthaiodklfoegiaaW.PrintWords YthaiodklfoegiaaW.PrintLast YthaiodklfoegiaaW.PrintMore CSame GValid MSide MPol OBase Go.Maps
open PG
abbrev Blks (s0 s1 : Nat) : Nat → Prop := fun k => s0 ≤ k ∧ k < s1
structure Fam {α : Type} (d : Kd α) (e : Nat) (w : World) (s0 s1 : Nat) (V : List Value) (L : List (List α)) : Prop where
 len : V.length = L.length
 each : ∀ (i : Nat) (v : Value) (l : List α), V[i]? = some v → L[i]? = some l → d.R e w s0 (fun k => k < s1) v l
 apart : ∀ (i j : Nat) (a b : Value), i ≠ j → V[i]? = some a → V[j]? = some b → Ap a b
section
variable {α : Type} {d : Kd α} {e s0 s1 : Nat} {w w1 : World} {V : List Value} {L : List (List α)}
theorem Fam.stay (hE : d.E = []) (h : Fam d e w s0 s1 V L) (hm : ∀ k, s0 ≤ k → k < s1 → k < w.heap.size → w1.heap[k]? = w.heap[k]?) : Fam d e w1 s0 s1 V L :=
 ⟨h.len, fun i v l hv hl => R_stay hE (h.each i v l hv hl) (fun k hk hlt => hm k (Kd.R_base (h.each i v l hv hl) k hk) ((h.each i v l hv hl).1 k hk) hlt), h.apart⟩
theorem Fam.below (hE : d.E = []) (h : Fam d e w s0 s1 V L) (hb : Below w.heap.size w w1) : Fam d e w1 s0 s1 V L := h.stay hE (fun k _ _ hk => hb.block k hk)
theorem Fam.types (hE : d.E = []) (h : Fam d e w s0 s1 V L) {β : Type} {d' : Kd β} {e' base' : Nat} {ok' : Nat → Prop} {u : Value} {ys : List β} (hu : d'.R e' w base' ok' u ys) (hne : e ≠ e') (hg : w.grownBy w1 u.ownBlock) : Fam d e w1 s0 s1 V L :=
 ⟨h.len, fun i v l hv hl => R_stay hE (h.each i v l hv hl) (fun k hk hlt => hg.block k hlt (fun e => ap_types (h.each i v l hv hl) hu hne k hk e.symm)), h.apart⟩
theorem Fam.put (hE : d.E = []) (h : Fam d e w s0 s1 V L) {i : Nat} {v : Value} {r : List α} (hi : V[i]? = some v) (hr : d.R e w1 s0 (fun k => k < s1) v r) (hg : w.grownBy w1 v.ownBlock) : Fam d e w1 s0 s1 V (L.set i r) := by
 refine ⟨by rw [List.length_set]; exact h.len, fun j u q hj hq => ?_, h.apart⟩
 by_cases c : i = j
 ·subst c
  rw [hi] at hj
  injection hj with hj
  subst hj
  have hlt : i < L.length := by
   have := (List.getElem?_eq_some_iff.1 hi).1
   rw [← h.len]; exact this
  rw [List.getElem?_set_self hlt] at hq
  injection hq with hq
  subst hq
  exact hr
 ·rw [List.getElem?_set_ne c] at hq
  exact R_stay hE (h.each j u q hj hq) (fun k hk hlt => hg.block k hlt (fun e' => h.apart i j v u c hi hj k e'.symm hk))
end
theorem fam_rows {w : World} {s0 s1 : Nat} {hs : List Value} {ms : List (List Int)} (h : Rws w s0 hs ms) (hl : ∀ v ∈ hs, ∀ k, v.ownBlock = some k → k < s1) : Fam (Kd.int .u16) 31 w s0 s1 hs ms :=
 ⟨h.len, fun i v l hv hm => R_ok rfl (h.each i v l hv hm) (hl v (List.mem_of_getElem? hv)), h.apart⟩
theorem rows_fam {w : World} {s0 s1 : Nat} {hs : List Value} {ms : List (List Int)} (h : Fam (Kd.int .u16) 31 w s0 s1 hs ms) : Rws w s0 hs ms :=
 ⟨h.len, fun i v l hv hm => R_ok rfl (h.each i v l hv hm) (fun _ _ => trivial), h.apart⟩
theorem store_put {α : Type} {enc : α → Value} {h1 : ∀ x, (enc x).oneCell' = true} {e T base b n c : Nat} {ok : Nat → Prop} {W : World} {xs : List α} (hT : (Try.prog.info? T).map (·.size) = some 1) (hc : ∀ x, (enc x).cells.toList = [enc x])
  (h : (Kd.scalar enc h1).R e W base ok (.slice (some ⟨b, 0, none⟩) n c) xs) (k : Nat) (hk : k < xs.length) (x : α) :
  (Instr.storeAt T (.pointer (some ⟨b, k, none⟩)) (enc x)).run Try.prog W = .ok () (W.setCell ⟨b, k, none⟩ (enc x)) := by
 obtain ⟨_, inner, hown, hr⟩ := h
 rcases hown.2 with ⟨hv, _⟩ | ⟨g', cap', cur, hv, hb, hh, hnc, hcm, hcs, _⟩
 ·cases hv
 injection hv with ha hn hc'
 injection ha with ha
 injection ha with hg'
 subst hg'
 have h2 := run_store_run (P := Try.prog) (o := k) T (enc x) [enc x] hh (hc x) hT (by
  have hd : (Kd.scalar enc h1).sz = 1 := rfl
  rw [hd] at hcs
  simp only [List.length_singleton]
  omega) (fun q hq => by rw [List.mem_singleton.1 hq]; exact h1 x)
 simpa only [World.setCells] using h2
def wordB (n p : Nat) : ByteArray := (gatehouselaw11_word.f 20 n p).getD ⟨#[]⟩
theorem word_eq (n p : Nat) (hn : n ≤ 2) (hp : p < 3) : gatehouselaw11_word.f 20 n p = some (wordB n p) := by
 have : ∀ (a : Fin 3) (b : Fin 3), (gatehouselaw11_word.f 20 (a.val : Int) (b.val : Int)).isSome = true := by decide +kernel
 have h := this ⟨n, by omega⟩ ⟨p, hp⟩
 obtain ⟨b, hb⟩ := Option.isSome_iff_exists.1 h
 have hb : gatehouselaw11_word.f 20 n p = some b := hb
 unfold wordB
 rw [hb]
 rfl
theorem word_go (n p : Nat) (hn : n ≤ 2) (hp : p < 3) (w : World) : Calls Try.prog 55 #[.int .i64 n, .int .i64 p] w fun e w' => e = .returned (.string (wordB n p)) ∧ Below w.heap.size w w' :=
 (gatehouselaw11_word.calls 20 n p (wordB n p) w (word_eq n p hn hp)).mono fun _ _ ⟨h1, h2⟩ => ⟨h1, h2.below⟩
def numI (n p : Nat) : Int := wrap64 ((wrap64 ((-1000) * (n : Int))) - (p : Int))
theorem number_go (n p : Nat) (w : World) : Calls Try.prog 56 #[.int .i64 n, .int .i64 p] w fun e w' => e = .returned (.int .i64 (numI n p)) ∧ Below w.heap.size w w' :=
 (gatehouselaw11_number.calls n p (numI n p) w rfl).mono fun _ _ ⟨h1, h2⟩ => ⟨h1, h2.below⟩
def mskI (n p : Nat) : Int := IntKind.u16.wrap (wrap64 ((wrap64 ((wrap64 (1000 * (n : Int))) + (p : Int))) + 7))
theorem mask_go (n p : Nat) (w : World) : Calls Try.prog 57 #[.int .i64 n, .int .i64 p] w fun e w' => e = .returned (.int .u16 (mskI n p)) ∧ Below w.heap.size w w' :=
 (gatehouselaw11_mask.calls n p (mskI n p) w rfl).mono fun _ _ ⟨h1, h2⟩ => ⟨h1, h2.below⟩
structure Mkd {α : Type} (f : Nat → α) (orig cur : List (List α)) (i k : Nat) : Prop where
 len : cur.length = orig.length
 each : ∀ p, (cur.getD p []).length = (orig.getD p []).length
 done : ∀ p, p < i → ∀ z ∈ cur.getD p [], z = f p
 part : ∀ q, q < k → q < (cur.getD i []).length → (cur.getD i [])[q]? = some (f i)
namespace Mkd
variable {α : Type} {f : Nat → α} {orig cur : List (List α)} {i k : Nat}
theorem start (f : Nat → α) (orig : List (List α)) : Mkd f orig orig 0 0 := ⟨rfl, fun _ => rfl, fun p h => by omega, fun q h => by omega⟩
theorem next (h : Mkd f orig cur i k) (hk : (cur.getD i []).length ≤ k) : Mkd f orig cur (i + 1) 0 := by
 refine ⟨h.len, h.each, fun p hp z hz => ?_, fun q hq => by omega⟩
 rcases Nat.lt_or_ge p i with hlt | hge
 ·exact h.done p hlt z hz
 ·obtain rfl : p = i := by omega
  obtain ⟨q, hq, rfl⟩ := List.mem_iff_getElem.1 hz
  have := h.part q (by omega) hq
  rw [List.getElem?_eq_getElem hq] at this
  exact Option.some.inj this
theorem getD_set (l : List α) (hi : i < cur.length) (p : Nat) : (cur.set i l).getD p [] = if p = i then l else cur.getD p [] := by
 rw [List.getD_eq_getElem?_getD, List.getD_eq_getElem?_getD, List.getElem?_set]
 by_cases h : i = p
 ·subst h; simp [hi]
 ·rw [if_neg h, if_neg (fun e => h e.symm)]
theorem put (h : Mkd f orig cur i k) (hi : i < cur.length) (hk : k < (cur.getD i []).length) : Mkd f orig (cur.set i ((cur.getD i []).set k (f i))) i (k + 1) := by
 refine ⟨by rw [List.length_set, h.len], fun p => ?_, fun p hp z hz => ?_, fun q hq hl => ?_⟩
 ·rw [getD_set _ hi]
  split
  ·next e => subst e; rw [List.length_set]; exact h.each p
  ·exact h.each p
 ·rw [getD_set _ hi, if_neg (by omega)] at hz
  exact h.done p hp z hz
 ·rw [getD_set _ hi, if_pos rfl] at hl ⊢
  rw [List.length_set] at hl
  rw [List.getElem?_set]
  by_cases e : k = q
  ·subst e; rw [if_pos rfl, if_pos hk]
  ·rw [if_neg e]
   exact h.part q (by omega) hl
end Mkd
def Full {α : Type} (f : Nat → α) (L : List (List α)) : Prop := ∀ p, ∀ z ∈ L.getD p [], z = f p
theorem Mkd.full {α : Type} {f : Nat → α} {orig cur : List (List α)} {k : Nat} (h : Mkd f orig cur orig.length k) : Full f cur := fun p z hz => by
 rcases Nat.lt_or_ge p orig.length with hlt | hge
 ·exact h.done p hlt z hz
 ·have : cur.getD p [] = [] := by
   rw [List.getD_eq_getElem?_getD, List.getElem?_eq_none (by rw [h.len]; exact hge)]
   rfl
  rw [this] at hz
  cases hz
end Go.Proofs.Ythaiodklfoegiaa.OMark
/- gatehouselaw11.mark, walked. -/
namespace Go.Proofs.Ythaiodklfoegiaa.OMarkW
open Go.RowKit YthaiodklfoegiaaW.PrintWords YthaiodklfoegiaaW.PrintLast YthaiodklfoegiaaW.PrintMore CSame GValid GDiffer MSide MPol OBase OMark Go.Maps
open PG
structure Ms (s0 s1 : Nat) (V3 V2 hs : List Value) (v5 : Value) (W1 W : World) (LS : List (List ByteArray)) (LI LM : List (List Int)) : Prop where
 str : Fam Kd.string 9 W s0 s1 V3 LS
 num : Fam (Kd.int .i64) 3 W s0 s1 V2 LI
 row : Fam (Kd.int .u16) 31 W s0 s1 hs LM
 raw : Kd.R (Kd.raw 1) 32 W s0 (fun k => k < s1) v5 (hs.map hd1)
 same : Same (Blks s0 s1) W1 W
section
variable {s0 s1 : Nat} {V3 V2 hs : List Value} {v5 : Value} {W1 W W' : World} {LS : List (List ByteArray)} {LI LM : List (List Int)} {i b m c k : Nat}
theorem Ms.move (h : Ms s0 s1 V3 V2 hs v5 W1 W LS LI LM) (hb : Below W.heap.size W W') : Ms s0 s1 V3 V2 hs v5 W1 W' LS LI LM :=
 ⟨h.str.below rfl hb, h.num.below rfl hb, h.row.below rfl hb, Kd.R_below h.raw hb, h.same.move hb⟩
theorem Ms.putS (h : Ms s0 s1 V3 V2 hs v5 W1 W LS LI LM) {l : List ByteArray} (hv : V3[i]? = some (.slice (some ⟨b, 0, none⟩) m c)) (hl : LS[i]? = some l) (hk : k < l.length) (x : ByteArray) :
  (Instr.storeAt 9 (.pointer (some ⟨b, k, none⟩)) (.string x)).run Try.prog W = .ok () (W.setCell ⟨b, k, none⟩ (.string x)) ∧ Ms s0 s1 V3 V2 hs v5 W1 (W.setCell ⟨b, k, none⟩ (.string x)) (LS.set i (l.set k x)) LI LM := by
 have hR := h.str.each i _ l hv hl
 have hp := Kd.R_putg hR (k : Int) x
 rw [Int.toNat_natCast] at hp
 have hg : W.grownBy (W.setCell ⟨b, k, none⟩ (.string x)) (Value.slice (some ⟨b, 0, none⟩) m c).ownBlock := hp.2
 refine ⟨store_put (by kernel_rfl) (fun _ => rfl) hR k hk x, h.str.put rfl hv hp.1 hg, h.num.types rfl hR (by decide) hg, h.row.types rfl hR (by decide) hg, R_stay rfl h.raw (fun q hq hlt => hg.block q hlt (fun e => ap_types h.raw hR (by decide) q hq e.symm)), h.same.grown hg (fun q hq => .inl ⟨Kd.R_base hR q hq, hR.1 q hq⟩)⟩
theorem Ms.putI (h : Ms s0 s1 V3 V2 hs v5 W1 W LS LI LM) {l : List Int} (hv : V2[i]? = some (.slice (some ⟨b, 0, none⟩) m c)) (hl : LI[i]? = some l) (hk : k < l.length) (x : Int) :
  (Instr.storeAt 3 (.pointer (some ⟨b, k, none⟩)) (.int .i64 x)).run Try.prog W = .ok () (W.setCell ⟨b, k, none⟩ (.int .i64 x)) ∧ Ms s0 s1 V3 V2 hs v5 W1 (W.setCell ⟨b, k, none⟩ (.int .i64 x)) LS (LI.set i (l.set k x)) LM := by
 have hR := h.num.each i _ l hv hl
 have hp := Kd.R_putg hR (k : Int) x
 rw [Int.toNat_natCast] at hp
 have hg : W.grownBy (W.setCell ⟨b, k, none⟩ (.int .i64 x)) (Value.slice (some ⟨b, 0, none⟩) m c).ownBlock := hp.2
 refine ⟨store_put (by kernel_rfl) (fun _ => rfl) hR k hk x, h.str.types rfl hR (by decide) hg, h.num.put rfl hv hp.1 hg, h.row.types rfl hR (by decide) hg, R_stay rfl h.raw (fun q hq hlt => hg.block q hlt (fun e => ap_types h.raw hR (by decide) q hq e.symm)), h.same.grown hg (fun q hq => .inl ⟨Kd.R_base hR q hq, hR.1 q hq⟩)⟩
theorem Ms.putM (h : Ms s0 s1 V3 V2 hs v5 W1 W LS LI LM) {l : List Int} (hv : hs[i]? = some (.slice (some ⟨b, 0, none⟩) m c)) (hl : LM[i]? = some l) (hk : k < l.length) (x : Int) :
  (Instr.storeAt 31 (.pointer (some ⟨b, k, none⟩)) (.int .u16 x)).run Try.prog W = .ok () (W.setCell ⟨b, k, none⟩ (.int .u16 x)) ∧ Ms s0 s1 V3 V2 hs v5 W1 (W.setCell ⟨b, k, none⟩ (.int .u16 x)) LS LI (LM.set i (l.set k x)) := by
 have hR := h.row.each i _ l hv hl
 have hp := Kd.R_putg hR (k : Int) x
 rw [Int.toNat_natCast] at hp
 have hg : W.grownBy (W.setCell ⟨b, k, none⟩ (.int .u16 x)) (Value.slice (some ⟨b, 0, none⟩) m c).ownBlock := hp.2
 refine ⟨store_put (by kernel_rfl) (fun _ => rfl) hR k hk x, h.str.types rfl hR (by decide) hg, h.num.types rfl hR (by decide) hg, h.row.put rfl hv hp.1 hg, R_stay rfl h.raw (fun q hq hlt => hg.block q hlt (fun e => ap_types h.raw hR (by decide) q hq e.symm)), h.same.grown hg (fun q hq => .inl ⟨Kd.R_base hR q hq, hR.1 q hq⟩)⟩
end
theorem wrap_nat (j : Nat) (h : j ≤ 4194304000) : wrap64 ((j : Int) + 1) = ((j + 1 : Nat) : Int) := by unfold wrap64; omega
theorem round_end {n j : Nat} {P : Prop} (h : j < n) (hn : j ≤ 4194304000) (hP : ∀ _ : Value.int .i64 (wrap64 ((j : Int) + 1)) = Value.int .i64 ((j + 1 : Nat) : Int), P) : P ∧ n - (intOf (Value.int .i64 (wrap64 ((j : Int) + 1)))).toNat < n - (intOf (Value.int .i64 (j : Int))).toNat := by
 refine ⟨hP (by rw [wrap_nat j hn]), ?_⟩
 rw [wrap_nat j hn]
 simp only [intOf]
 omega
theorem fam_at {α : Type} {d : Kd α} {e s0 s1 : Nat} {W : World} {V : List Value} {orig cur : List (List α)} {f : Nat → α} {i k : Nat} (h : Fam d e W s0 s1 V cur) (hm : Mkd f orig cur i k) (hi : i < V.length) :
  ∃ A c, V[i]? = some (.slice A (orig.getD i []).length c) ∧ cur[i]? = some (cur.getD i []) ∧ (cur.getD i []).length = (orig.getD i []).length ∧ i < cur.length := by
 have hi' : i < cur.length := by rw [← h.len]; exact hi
 have hc : cur[i]? = some (cur.getD i []) := by rw [List.getElem?_eq_getElem hi', List.getD_eq_getElem?_getD, List.getElem?_eq_getElem hi']; rfl
 obtain ⟨A, c, hv⟩ := Kd.R_slice (h.each i V[i] _ (List.getElem?_eq_getElem hi) hc)
 rw [hm.each] at hv
 exact ⟨A, c, by rw [List.getElem?_eq_getElem hi, hv], hc, hm.each i, hi'⟩
theorem fam_form {α : Type} {d : Kd α} {e s0 s1 : Nat} {W : World} {V : List Value} {cur : List (List α)} {i m c : Nat} {A : Option Addr} (h : Fam d e W s0 s1 V cur) (hv : V[i]? = some (.slice A m c)) (hc : cur[i]? = some (cur.getD i [])) (hm : 0 < (cur.getD i []).length) : ∃ b, A = some ⟨b, 0, none⟩ := by
 obtain ⟨b, cb, hvb, _, _, _⟩ := Kd.R_form (h.each i _ _ hv hc) hm
 injection hvb with h1 _ _
 exact ⟨b, h1⟩
theorem raw_at {W : World} {s0 g5 m c i : Nat} {ok : Nat → Prop} {hs : List Value} {v : Value} (h : Kd.R (Kd.raw 1) 32 W s0 ok (.slice (some ⟨g5, 0, none⟩) m c) (hs.map hd1)) (hv : hs[i]? = some v) : W.cell? ⟨g5, i, none⟩ = some v := by
 have hi : i < hs.length := (List.getElem?_eq_some_iff.1 hv).1
 have hm : m = (hs.map hd1).length := (Kd.R_reads' h).1
 rw [List.length_map] at hm
 obtain ⟨cc, _, hM, hcc, _⟩ := Kd.R_elem h [] (i : Int) (by omega) (by omega)
 have hx : (hs.map hd1).getD (i : Int).toNat [] = [v] := by
  rw [Int.toNat_natCast, List.getD_eq_getElem?_getD, List.getElem?_map, hv]; rfl
 rw [hx] at hM
 have h0 := hcc 0 v (by rw [hM.1]; rfl)
 have hd : (Kd.raw 1).sz = 1 := rfl
 rw [hd, Int.toNat_natCast, Nat.mul_one, Nat.add_zero] at h0
 exact h0
theorem raw_form {W : World} {s0 m c : Nat} {A : Option Addr} {ok : Nat → Prop} {L : List (List Value)} (h : Kd.R (Kd.raw 1) 32 W s0 ok (.slice A m c) L) (hm : 0 < L.length) : ∃ g, A = some ⟨g, 0, none⟩ := by
 obtain ⟨b, cb, hvb, _, _, _⟩ := Kd.R_form h hm
 injection hvb with h1 _ _
 exact ⟨b, h1⟩
theorem same_from {S : Nat → Prop} {w W W1 : World} (hb : Below w.heap.size w W) (h : Same S W W1) : Same S w W1 :=
 ⟨h.os.trans hb.os, h.tape.trans hb.tape, h.output.trans hb.output, Nat.le_trans hb.size h.size, fun b hl hs => (h.block b (Nat.lt_of_lt_of_le hl hb.size) hs).trans (hb.block b hl)⟩
def marked (n : Nat) (g g' : G) : Prop := g'.A0 = g.A0 ∧ g'.c0 = g.c0 ∧ g'.A1 = g.A1 ∧ g'.c1 = g.c1 ∧ g'.A2 = g.A2 ∧ g'.c2 = g.c2 ∧ g'.A3 = g.A3 ∧ g'.c3 = g.c3 ∧ g'.A4 = g.A4 ∧ g'.c4 = g.c4 ∧ g'.A5 = g.A5 ∧ g'.c5 = g.c5 ∧
 g'.la.length = g.la.length ∧ g'.ls.length = g.ls.length ∧ g'.lo.length = g.lo.length ∧ g'.of.length = g.of.length ∧ g'.on.length = g.on.length ∧ g'.ms.length = g.ms.length ∧ (∀ p, (g'.ms.getD p []).length = (g.ms.getD p []).length) ∧
 Full (wordB n) [g'.la, g'.ls, g'.lo] ∧ Full (numI n) [g'.of, g'.on] ∧ Full (mskI n) g'.ms
structure Few (g : G) : Prop where
 la : g.la.length ≤ 64
 ls : g.ls.length ≤ 64
 lo : g.lo.length ≤ 64
 of : g.of.length ≤ 64
 on : g.on.length ≤ 64
 ms : g.ms.length ≤ 64
 each : ∀ p, (g.ms.getD p []).length ≤ 64
theorem three {α : Type} {L : List α} (h : L.length = 3) : ∃ a b c, L = [a, b, c] := by
 match L, h with
 | [a, b, c], _ => exact ⟨a, b, c, rfl⟩
theorem two {α : Type} {L : List α} (h : L.length = 2) : ∃ a b, L = [a, b] := by
 match L, h with
 | [a, b], _ => exact ⟨a, b, rfl⟩
theorem ap3 {a b c : Value} (h1 : Ap a b) (h2 : Ap a c) (h3 : Ap b c) : ∀ (i j : Nat) (x y : Value), i ≠ j → [a, b, c][i]? = some x → [a, b, c][j]? = some y → Ap x y := by
 intro i j x y hne hi hj
 have hi3 : i < 3 := by have := (List.getElem?_eq_some_iff.1 hi).1; simpa using this
 have hj3 : j < 3 := by have := (List.getElem?_eq_some_iff.1 hj).1; simpa using this
 match i, j, hi3, hj3 with
 | 0, 0, _, _ => exact absurd rfl hne
 | 1, 1, _, _ => exact absurd rfl hne
 | 2, 2, _, _ => exact absurd rfl hne
 | 0, 1, _, _ => simp at hi hj; subst hi; subst hj; exact h1
 | 0, 2, _, _ => simp at hi hj; subst hi; subst hj; exact h2
 | 1, 0, _, _ => simp at hi hj; subst hi; subst hj; exact h1.symm
 | 1, 2, _, _ => simp at hi hj; subst hi; subst hj; exact h3
 | 2, 0, _, _ => simp at hi hj; subst hi; subst hj; exact h2.symm
 | 2, 1, _, _ => simp at hi hj; subst hi; subst hj; exact h3.symm
theorem ap2 {a b : Value} (h1 : Ap a b) : ∀ (i j : Nat) (x y : Value), i ≠ j → [a, b][i]? = some x → [a, b][j]? = some y → Ap x y := by
 intro i j x y hne hi hj
 have hi3 : i < 2 := by have := (List.getElem?_eq_some_iff.1 hi).1; simpa using this
 have hj3 : j < 2 := by have := (List.getElem?_eq_some_iff.1 hj).1; simpa using this
 match i, j, hi3, hj3 with
 | 0, 0, _, _ => exact absurd rfl hne
 | 1, 1, _, _ => exact absurd rfl hne
 | 0, 1, _, _ => simp at hi hj; subst hi; subst hj; exact h1
 | 1, 0, _, _ => simp at hi hj; subst hi; subst hj; exact h1.symm
section
variable {w : World} {s0 s1 : Nat} {g : G} {hs : List Value}
theorem own_str (h : Own w s0 s1 g hs) : Fam Kd.string 9 w s0 s1 [.slice g.A0 g.la.length g.c0, .slice g.A1 g.ls.length g.c1, .slice g.A2 g.lo.length g.c2] [g.la, g.ls, g.lo] := by
 refine ⟨rfl, fun i v l hv hl => ?_, ap3 h.a01 h.a02 h.a12⟩
 have hi3 : i < 3 := by have := (List.getElem?_eq_some_iff.1 hv).1; simpa using this
 match i, hi3 with
 | 0, _ => simp at hv hl; subst hv; subst hl; exact h.r0
 | 1, _ => simp at hv hl; subst hv; subst hl; exact h.r1
 | 2, _ => simp at hv hl; subst hv; subst hl; exact h.r2
theorem own_num (h : Own w s0 s1 g hs) : Fam (Kd.int .i64) 3 w s0 s1 [.slice g.A3 g.of.length g.c3, .slice g.A4 g.on.length g.c4] [g.of, g.on] := by
 refine ⟨rfl, fun i v l hv hl => ?_, ap2 h.a34⟩
 have hi3 : i < 2 := by have := (List.getElem?_eq_some_iff.1 hv).1; simpa using this
 match i, hi3 with
 | 0, _ => simp at hv hl; subst hv; subst hl; exact h.r3
 | 1, _ => simp at hv hl; subst hv; subst hl; exact h.r4
end
theorem mark_calls (g : G) (hs : List Value) (s0 s1 : Nat) (n : Nat) (hn : n ≤ 2) (w : World) (h : Own w s0 s1 g hs) (hs1 : s1 ≤ w.heap.size) (hw : Few g) :
  Calls Try.prog 19 #[g.val, .int .i64 n] w fun e w' => (∃ v, e = .returned v) ∧ ∃ g', marked n g g' ∧ Own w' s0 s1 g' hs ∧ Same (Blks s0 s1) w w' := by
 obtain ⟨A0, c0, la, A1, c1, ls, A2, c2, lo, A3, c3, of, A4, c4, on, A5, c5, ms⟩ := g
 have hst : Stays (w.alloc (.cells #[.slice A0 la.length c0, .slice A1 ls.length c1, .slice A2 lo.length c2, .slice A3 of.length c3, .slice A4 on.length c4, .slice A5 ms.length c5] 26)) w.heap.size #[.slice A0 la.length c0, .slice A1 ls.length c1, .slice A2 lo.length c2, .slice A3 of.length c3, .slice A4 on.length c4, .slice A5 ms.length c5] 26 := heap_alloc_new w _
 have e0 := hst.cell 0
 have e1 := hst.cell 1
 have e2 := hst.cell 2
 have e3 := hst.cell 3
 have e4 := hst.cell 4
 simp only [Jt, Ju, Jv] at e0 e1 e2 e3 e4
 unfold G.val
 simp only []
 have H := jA h
 have HW := jA hw
 have HST := jA hst
 clear h hst hw
 go_enter Try.func19, Try.ntmps19
 go_upto_region 3 with fail
 clear e0 e1 e2 e3 e4
 have hb1 := below_alloc (below_alloc (Below.refl _ (w.alloc (.cells #[.slice A0 la.length c0, .slice A1 ls.length c1, .slice A2 lo.length c2, .slice A3 of.length c3, .slice A4 on.length c4, .slice A5 ms.length c5] 26))) (.cells #[.slice A0 la.length c0, .slice A1 ls.length c1, .slice A2 lo.length c2] 22)) (.cells #[.slice A3 of.length c3, .slice A4 on.length c4] 23)
 have hb0 := below_alloc (below_alloc (below_alloc (Below.refl w.heap.size w) (.cells #[.slice A0 la.length c0, .slice A1 ls.length c1, .slice A2 lo.length c2, .slice A3 of.length c3, .slice A4 on.length c4, .slice A5 ms.length c5] 26)) (.cells #[.slice A0 la.length c0, .slice A1 ls.length c1, .slice A2 lo.length c2] 22)) (.cells #[.slice A3 of.length c3, .slice A4 on.length c4] 23)
 have hx1 := HST.out.below hb1
 have hx2 : Stays (((w.alloc (.cells #[.slice A0 la.length c0, .slice A1 ls.length c1, .slice A2 lo.length c2, .slice A3 of.length c3, .slice A4 on.length c4, .slice A5 ms.length c5] 26)).alloc (.cells #[.slice A0 la.length c0, .slice A1 ls.length c1, .slice A2 lo.length c2] 22)).alloc (.cells #[.slice A3 of.length c3, .slice A4 on.length c4] 23)) (w.heap.size + 1) #[.slice A0 la.length c0, .slice A1 ls.length c1, .slice A2 lo.length c2] 22 := by
  have h2 : Stays ((w.alloc (.cells #[.slice A0 la.length c0, .slice A1 ls.length c1, .slice A2 lo.length c2, .slice A3 of.length c3, .slice A4 on.length c4, .slice A5 ms.length c5] 26)).alloc (.cells #[.slice A0 la.length c0, .slice A1 ls.length c1, .slice A2 lo.length c2] 22)) (w.alloc (.cells #[.slice A0 la.length c0, .slice A1 ls.length c1, .slice A2 lo.length c2, .slice A3 of.length c3, .slice A4 on.length c4, .slice A5 ms.length c5] 26)).heap.size #[.slice A0 la.length c0, .slice A1 ls.length c1, .slice A2 lo.length c2] 22 := heap_alloc_new _ _
  rw [World.size_alloc] at h2
  exact h2.below (below_alloc (Below.refl _ _) _)
 have hx3 : Stays (((w.alloc (.cells #[.slice A0 la.length c0, .slice A1 ls.length c1, .slice A2 lo.length c2, .slice A3 of.length c3, .slice A4 on.length c4, .slice A5 ms.length c5] 26)).alloc (.cells #[.slice A0 la.length c0, .slice A1 ls.length c1, .slice A2 lo.length c2] 22)).alloc (.cells #[.slice A3 of.length c3, .slice A4 on.length c4] 23)) (w.heap.size + 1 + 1) #[.slice A3 of.length c3, .slice A4 on.length c4] 23 := by
  have h2 : Stays (((w.alloc (.cells #[.slice A0 la.length c0, .slice A1 ls.length c1, .slice A2 lo.length c2, .slice A3 of.length c3, .slice A4 on.length c4, .slice A5 ms.length c5] 26)).alloc (.cells #[.slice A0 la.length c0, .slice A1 ls.length c1, .slice A2 lo.length c2] 22)).alloc (.cells #[.slice A3 of.length c3, .slice A4 on.length c4] 23)) ((w.alloc (.cells #[.slice A0 la.length c0, .slice A1 ls.length c1, .slice A2 lo.length c2, .slice A3 of.length c3, .slice A4 on.length c4, .slice A5 ms.length c5] 26)).alloc (.cells #[.slice A0 la.length c0, .slice A1 ls.length c1, .slice A2 lo.length c2] 22)).heap.size #[.slice A3 of.length c3, .slice A4 on.length c4] 23 := heap_alloc_new _ _
  rw [World.size_alloc, World.size_alloc] at h2
  exact h2
 have hM : Ms s0 s1 [.slice A0 la.length c0, .slice A1 ls.length c1, .slice A2 lo.length c2] [.slice A3 of.length c3, .slice A4 on.length c4] hs (.slice A5 ms.length c5) (((w.alloc (.cells #[.slice A0 la.length c0, .slice A1 ls.length c1, .slice A2 lo.length c2, .slice A3 of.length c3, .slice A4 on.length c4, .slice A5 ms.length c5] 26)).alloc (.cells #[.slice A0 la.length c0, .slice A1 ls.length c1, .slice A2 lo.length c2] 22)).alloc (.cells #[.slice A3 of.length c3, .slice A4 on.length c4] 23)) (((w.alloc (.cells #[.slice A0 la.length c0, .slice A1 ls.length c1, .slice A2 lo.length c2, .slice A3 of.length c3, .slice A4 on.length c4, .slice A5 ms.length c5] 26)).alloc (.cells #[.slice A0 la.length c0, .slice A1 ls.length c1, .slice A2 lo.length c2] 22)).alloc (.cells #[.slice A3 of.length c3, .slice A4 on.length c4] 23)) [la, ls, lo] [of, on] ms :=
  ⟨(own_str H.out).below rfl hb0, (own_num H.out).below rfl hb0, (fam_rows H.out.rows H.out.lt).below rfl hb0, Kd.R_below H.out.r5 hb0, Same.refl _ _⟩
 obtain ⟨W1, hW1⟩ : ∃ W1, W1 = (((w.alloc (.cells #[.slice A0 la.length c0, .slice A1 ls.length c1, .slice A2 lo.length c2, .slice A3 of.length c3, .slice A4 on.length c4, .slice A5 ms.length c5] 26)).alloc (.cells #[.slice A0 la.length c0, .slice A1 ls.length c1, .slice A2 lo.length c2] 22)).alloc (.cells #[.slice A3 of.length c3, .slice A4 on.length c4] 23)) := ⟨_, rfl⟩
 obtain ⟨gb, hgb⟩ : ∃ gb, gb = w.heap.size := ⟨_, rfl⟩
 obtain ⟨gl, hgl⟩ : ∃ gl, gl = w.heap.size + 1 := ⟨_, rfl⟩
 obtain ⟨gm, hgm⟩ : ∃ gm, gm = w.heap.size + 1 + 1 := ⟨_, rfl⟩
 have hnb : ¬ Blks s0 s1 gb := fun h => by have := h.2; omega
 have hnl : ¬ Blks s0 s1 gl := fun h => by have := h.2; omega
 have hnm : ¬ Blks s0 s1 gm := fun h => by have := h.2; omega
 rw [← hW1] at hb0 hx1 hx2 hx3 hM ⊢
 rw [← hgm] at hx3 ⊢
 rw [← hgl] at hx2 ⊢
 have HB0 := jA hb0
 rw [← hgb] at hx1 ⊢
 have HX1 := jA hx1
 have HX2 := jA hx2
 have HX3 := jA hx3
 have HM := jA hM
 have HNB := jA hnb
 have HNL := jA hnl
 have HNM := jA hnm
 clear hb0 hb1 hx1 hx2 hx3 hM hW1 hgb hgl hgm hnb hnl hnm HST hs1
 go_wp2
 go_loopw [6] (fun u6 wr => ∃ (i : Nat) (LS : List (List ByteArray)), i ≤ 3 ∧ u6 = .int .i64 i ∧ Aside0 (Mkd (wordB n) [la, ls, lo] LS i 0) ∧ Aside0 (Ms s0 s1 [.slice A0 la.length c0, .slice A1 ls.length c1, .slice A2 lo.length c2] [.slice A3 of.length c3, .slice A4 on.length c4] hs (.slice A5 ms.length c5) W1 wr LS [of, on] ms)) (fun u6 _ => 3 - (intOf u6).toNat)
 case atStart => exact ⟨0, _, by omega, rfl, ⟨Mkd.start _ _⟩, HM⟩
 case round =>
  clear HM
  obtain ⟨i, LS, hi, rfl, HK, HM⟩ := hrel
  by_cases hlt : i < 3
  ·have hlt' : (i : Int) < 3 := by omega
   obtain ⟨m, hm⟩ : ∃ m, m = ([la, ls, lo].getD i []).length := ⟨_, rfl⟩
   have Za : m ≤ 64 := by
    have h0 := HW.out.la; have h1 := HW.out.ls; have h2 := HW.out.lo
    simp only [] at h0 h1 h2
    rw [hm]
    match i, hlt with
    | 0, _ => simpa using h0
    | 1, _ => simpa using h1
    | 2, _ => simpa using h2
   have HMM := jA hm
   clear hm
   go_wp2
   go_loopw [7] (fun u7 wr => ∃ (k : Nat) (LS : List (List ByteArray)), k ≤ m ∧ u7 = .int .i64 k ∧ Aside0 (Mkd (wordB n) [la, ls, lo] LS i k) ∧ Aside0 (Ms s0 s1 [.slice A0 la.length c0, .slice A1 ls.length c1, .slice A2 lo.length c2] [.slice A3 of.length c3, .slice A4 on.length c4] hs (.slice A5 ms.length c5) W1 wr LS [of, on] ms)) (fun u7 _ => m - (intOf u7).toNat)
   case atStart => exact ⟨0, LS, by omega, rfl, HK, HM⟩
   case round =>
    clear HK HM LS
    obtain ⟨k, LS, hk, rfl, HK, HM⟩ := hrel
    obtain ⟨A, c, hv, hc, hcl, hcur⟩ := fam_at HM.out.str HK.out (by simpa using hlt)
    rw [← HMM.out] at hv hcl
    have hcell : wr.cell? ⟨gl, i, none⟩ = some (.slice A m c) := by
     rw [(HM.out.same.stays HX2.out HNL.out).cell i, ← hv]; simp
    by_cases hkm : k < m
    ·have hkm' : (k : Int) < m := by omega
     obtain ⟨b, hb⟩ := fam_form HM.out.str hv hc (by omega)
     subst hb
     have HV := jA hv
     have HC := jA hc
     have HCL := jA hcl
     have HCUR := jA hcur
     have HCELL := jA (show wr.drew.cell? _ = _ from hcell)
     clear hv hc hcl hcur
     go_upto_region 9 with fail
     refine start_ (n := 10) (S := fun w' => w'.cell? ⟨gl, i, none⟩ = some (.slice (some ⟨b, 0, none⟩) m c)) (ds := [9]) (Jb 10 0) (by kernel_rfl) rfl (by kernel_rfl) HCELL.out (fun hHeld => ?_)
     refine Jp 0 39 (Jb 10 1) rfl rfl ?_
     refine Jp 1 40 (Jb 10 3) rfl rfl ?_
     refine Jp 2 41 (Jb 10 7) rfl rfl ?_
     refine take_ (i := 3) (N := some 42) (v := ?_) (a' := ?_) (Jb 10 15) rfl rfl (by kernel_rfl) (fun _ _ _ h => h) (Or.inl ⟨by rfl, ?_⟩) hHeld ?_ ?_; rotate_left; (rintro w' s0; go_simp; with_reducible rfl); rotate_left; (simp only [Act.put, Jq, Jr, Js]; rfl)
     refine Jp 4 43 (Jb 10 31) rfl rfl ?_
     refine Jp 5 44 (Jb 10 63) rfl rfl ?_
     refine Jp 6 45 (Jb 10 127) rfl rfl ?_
     refine one_ (i := 7) (N := some 46) (Jb 10 255) rfl rfl (by kernel_rfl) (by decide) (fun K hK => ?_)
     refine goes_ Try.func55 (by kernel_rfl) rfl #[.int .i64 n, .int .i64 i] (by rfl) rfl rfl (by (try simp only [List.map_toArray, List.map_cons, List.map_nil]); first | done | rfl) ?_
     refine (word_go n i hn hlt _).mono ?_
     rintro e w1 ⟨rfl, hb1⟩
     refine ⟨_, rfl, ?_⟩
     have hb2 : Below wr.heap.size wr w1 := below_then (below_drew (Below.refl wr.heap.size wr)) (Nat.le_refl _) hb1
     have hS1 := pw_cell_below hb2 HCELL.out
     have hput := (HM.out.move hb2).putS HV.out HC.out (by rw [HCL.out]; exact hkm) (wordB n i)
     have HST := jA hput.1
     have HF := jA hput.2
     have HKN := jA (HK.out.put HCUR.out (by rw [HCL.out]; exact hkm))
     clear hb1 hb2 hput
     refine hK.out _ _ hS1 (fun hHeld => ?_)
     clear hK K hS1
     refine norm_ (a' := ?_) ?_ ?_; rotate_left; (show Act.put _ (some 46) _ = _; simp only [Act.put, Jq, Jr, Js]; rfl)
     refine Jp 8 47 (Jb 10 511) rfl rfl ?_
     refine last_ (i := 9) (N := none) (Jb 10 1023) rfl rfl (by kernel_rfl) (by decide) (fun K hK => ?_)
     refine skip_ rfl rfl (by have hst := HST.out; first | (simp [execOp, Act.eval, hst]; done) | (show Sem.run Try.prog _ _ = _; simp only [execOp, Act.eval]; simp; rw [hst]; rfl)) ?_
     refine hK.out _ _ ?_
     clear hK K HST hHeld
     refine done_ (by kernel_rfl) ?_
     generalize World.setCell w1 ⟨b, k, none⟩ (.string (wordB n i)) = wf at HF ⊢
     go_wp2
     go_roundw
     case rel => exact ⟨k + 1, _, by omega, by go_num, HKN, HF⟩
     case measure => simp [intOf]; omega
    ·have Zb : ¬ ((k : Int) < m) := by omega
     have HKN := jA (HK.out.next (by rw [hcl]; omega))
     clear hv hc hcl hcur
     go_wp2
     go_roundw
     case rel => exact ⟨i + 1, _, by omega, by go_num, HKN, HM⟩
     case measure => simp [intOf]; omega
  ·have hi3 : i = 3 := by omega
   subst hi3
   have hlt' : ¬ (((3 : Nat) : Int) < 3) := by omega
   have HFS := jA (HK.out.full)
   have HES := jA (HK.out.each)
   have HLS := jA (HK.out.len)
   clear hlt hi HK
   go_wp2
   go_loopw [8] (fun u8 wr => ∃ (i : Nat) (LI : List (List Int)), i ≤ 2 ∧ u8 = .int .i64 i ∧ Aside0 (Mkd (numI n) [of, on] LI i 0) ∧ Aside0 (Ms s0 s1 [.slice A0 la.length c0, .slice A1 ls.length c1, .slice A2 lo.length c2] [.slice A3 of.length c3, .slice A4 on.length c4] hs (.slice A5 ms.length c5) W1 wr LS LI ms)) (fun u8 _ => 2 - (intOf u8).toNat)
   case atStart => exact ⟨0, _, by omega, rfl, ⟨Mkd.start _ _⟩, HM⟩
   case round =>
    clear HM
    obtain ⟨i, LI, hi, rfl, HK, HM⟩ := hrel
    by_cases hlt : i < 2
    ·have hlt' : (i : Int) < 2 := by omega
     obtain ⟨m, hm⟩ : ∃ m, m = ([of, on].getD i []).length := ⟨_, rfl⟩
     have Za : m ≤ 64 := by
      have h0 := HW.out.of; have h1 := HW.out.on
      simp only [] at h0 h1
      rw [hm]
      match i, hlt with
      | 0, _ => simpa using h0
      | 1, _ => simpa using h1
     have HMM := jA hm
     clear hm
     go_wp2
     go_loopw [9] (fun u9 wr => ∃ (k : Nat) (LI : List (List Int)), k ≤ m ∧ u9 = .int .i64 k ∧ Aside0 (Mkd (numI n) [of, on] LI i k) ∧ Aside0 (Ms s0 s1 [.slice A0 la.length c0, .slice A1 ls.length c1, .slice A2 lo.length c2] [.slice A3 of.length c3, .slice A4 on.length c4] hs (.slice A5 ms.length c5) W1 wr LS LI ms)) (fun u9 _ => m - (intOf u9).toNat)
     case atStart => exact ⟨0, LI, by omega, rfl, HK, HM⟩
     case round =>
      clear HK HM LI
      obtain ⟨k, LI, hk, rfl, HK, HM⟩ := hrel
      obtain ⟨A, c, hv, hc, hcl, hcur⟩ := fam_at HM.out.num HK.out (by simpa using hlt)
      rw [← HMM.out] at hv hcl
      have hcell : wr.cell? ⟨gm, i, none⟩ = some (.slice A m c) := by
       rw [(HM.out.same.stays HX3.out HNM.out).cell i, ← hv]; simp
      by_cases hkm : k < m
      ·have hkm' : (k : Int) < m := by omega
       obtain ⟨b, hb⟩ := fam_form HM.out.num hv hc (by omega)
       subst hb
       have HV := jA hv
       have HC := jA hc
       have HCL := jA hcl
       have HCUR := jA hcur
       have HCELL := jA (show wr.drew.cell? _ = _ from hcell)
       clear hv hc hcl hcur
       go_upto_region 16 with fail
       refine start_ (n := 10) (S := fun w' => w'.cell? ⟨gm, i, none⟩ = some (.slice (some ⟨b, 0, none⟩) m c)) (ds := [9]) (Jb 10 0) (by kernel_rfl) rfl (by kernel_rfl) HCELL.out (fun hHeld => ?_)
       refine Jp 0 63 (Jb 10 1) rfl rfl ?_
       refine Jp 1 64 (Jb 10 3) rfl rfl ?_
       refine Jp 2 65 (Jb 10 7) rfl rfl ?_
       refine take_ (i := 3) (N := some 66) (v := ?_) (a' := ?_) (Jb 10 15) rfl rfl (by kernel_rfl) (fun _ _ _ h => h) (Or.inl ⟨by rfl, ?_⟩) hHeld ?_ ?_; rotate_left; (rintro w' s0; go_simp; with_reducible rfl); rotate_left; (simp only [Act.put, Jq, Jr, Js]; rfl)
       refine Jp 4 67 (Jb 10 31) rfl rfl ?_
       refine Jp 5 68 (Jb 10 63) rfl rfl ?_
       refine Jp 6 69 (Jb 10 127) rfl rfl ?_
       refine one_ (i := 7) (N := some 70) (Jb 10 255) rfl rfl (by kernel_rfl) (by decide) (fun K hK => ?_)
       refine goes_ Try.func56 (by kernel_rfl) rfl #[.int .i64 n, .int .i64 i] (by rfl) rfl rfl (by (try simp only [List.map_toArray, List.map_cons, List.map_nil]); first | done | rfl) ?_
       refine (number_go n i _).mono ?_
       rintro e w1 ⟨rfl, hb1⟩
       refine ⟨_, rfl, ?_⟩
       have hb2 : Below wr.heap.size wr w1 := below_then (below_drew (Below.refl wr.heap.size wr)) (Nat.le_refl _) hb1
       have hS1 := pw_cell_below hb2 HCELL.out
       have hput := (HM.out.move hb2).putI HV.out HC.out (by rw [HCL.out]; exact hkm) (numI n i)
       have HST := jA hput.1
       have HF := jA hput.2
       have HKN := jA (HK.out.put HCUR.out (by rw [HCL.out]; exact hkm))
       clear hb1 hb2 hput
       refine hK.out _ _ hS1 (fun hHeld => ?_)
       clear hK K hS1
       refine norm_ (a' := ?_) ?_ ?_; rotate_left; (show Act.put _ (some 70) _ = _; simp only [Act.put, Jq, Jr, Js]; rfl)
       refine Jp 8 71 (Jb 10 511) rfl rfl ?_
       refine last_ (i := 9) (N := none) (Jb 10 1023) rfl rfl (by kernel_rfl) (by decide) (fun K hK => ?_)
       refine skip_ rfl rfl (by have hst := HST.out; first | (simp [execOp, Act.eval, hst]; done) | (show Sem.run Try.prog _ _ = _; simp only [execOp, Act.eval]; simp; rw [hst]; rfl)) ?_
       refine hK.out _ _ ?_
       clear hK K HST hHeld
       refine done_ (by kernel_rfl) ?_
       generalize World.setCell w1 ⟨b, k, none⟩ (.int .i64 (numI n i)) = wf at HF ⊢
       go_wp2
       go_roundw
       case rel => exact ⟨k + 1, _, by omega, by go_num, HKN, HF⟩
       case measure => simp [intOf]; omega
      ·have Zb : ¬ ((k : Int) < m) := by omega
       have HKN := jA (HK.out.next (by rw [hcl]; omega))
       clear hv hc hcl hcur
       go_wp2
       go_roundw
       case rel => exact ⟨i + 1, _, by omega, by go_num, HKN, HM⟩
       case measure => simp [intOf]; omega
    ·have hi3 : i = 2 := by omega
     subst hi3
     have hlt' : ¬ (((2 : Nat) : Int) < 2) := by omega
     have HFI := jA (HK.out.full)
     have HEI := jA (HK.out.each)
     have HLI := jA (HK.out.len)
     clear hlt hi HK
     have hl5 := HW.out.ms
     simp only [] at hl5
     go_wp2
     go_loopw [10] (fun u10 wr => ∃ (i : Nat) (LM : List (List Int)), i ≤ ms.length ∧ u10 = .int .i64 i ∧ Aside0 (Mkd (mskI n) ms LM i 0) ∧ Aside0 (Ms s0 s1 [.slice A0 la.length c0, .slice A1 ls.length c1, .slice A2 lo.length c2] [.slice A3 of.length c3, .slice A4 on.length c4] hs (.slice A5 ms.length c5) W1 wr LS LI LM)) (fun u10 _ => ms.length - (intOf u10).toNat)
     case atStart => exact ⟨0, _, by omega, rfl, ⟨Mkd.start _ _⟩, HM⟩
     case round =>
      clear HM
      obtain ⟨i, LM, hi, rfl, HK, HM⟩ := hrel
      have x5 := (HM.out.same.stays HX1.out HNB.out).cell 5
      simp only [Jt, Ju, Jv] at x5
      by_cases hlt : i < ms.length
      ·have hlt' : (i : Int) < ms.length := by omega
       obtain ⟨m, hm⟩ : ∃ m, m = (ms.getD i []).length := ⟨_, rfl⟩
       have Za : m ≤ 64 := by rw [hm]; exact HW.out.each i
       have HMM := jA hm
       have hhl : hs.length = ms.length := by rw [HM.out.row.len, HK.out.len]
       obtain ⟨g5, e5⟩ := raw_form HM.out.raw (by rw [List.length_map]; omega)
       subst e5
       have HHL := jA hhl
       clear hm hhl
       go_wp2
       go_loopw [11] (fun u11 wr => ∃ (k : Nat) (LM : List (List Int)), k ≤ m ∧ u11 = .int .i64 k ∧ Aside0 (Mkd (mskI n) ms LM i k) ∧ Aside0 (Ms s0 s1 [.slice A0 la.length c0, .slice A1 ls.length c1, .slice A2 lo.length c2] [.slice A3 of.length c3, .slice A4 on.length c4] hs (.slice (some ⟨g5, 0, none⟩) ms.length c5) W1 wr LS LI LM)) (fun u11 _ => m - (intOf u11).toNat)
       case atStart => exact ⟨0, LM, by omega, rfl, HK, HM⟩
       case round =>
        clear HK HM LM x5
        obtain ⟨k, LM, hk, rfl, HK, HM⟩ := hrel
        have x5 := (HM.out.same.stays HX1.out HNB.out).cell 5
        simp only [Jt, Ju, Jv] at x5
        obtain ⟨A, c, hv, hc, hcl, hcur⟩ := fam_at HM.out.row HK.out (by rw [HHL.out]; exact hlt)
        rw [← HMM.out] at hv hcl
        have hcell : wr.cell? ⟨g5, i, none⟩ = some (.slice A m c) := raw_at HM.out.raw hv
        by_cases hkm : k < m
        ·have hkm' : (k : Int) < m := by omega
         obtain ⟨b, hb⟩ := fam_form HM.out.row hv hc (by omega)
         subst hb
         have HV := jA hv
         have HC := jA hc
         have HCL := jA hcl
         have HCUR := jA hcur
         have HCELL := jA (show wr.drew.cell? _ = _ from hcell)
         have HX5 := jA (show wr.drew.cell? _ = _ from x5)
         clear hv hc hcl hcur
         go_upto_region 23 with fail
         refine start_ (n := 11) (S := fun w' => w'.cell? ⟨gb, 5, none⟩ = some (.slice (some ⟨g5, 0, none⟩) ms.length c5) ∧ w'.cell? ⟨g5, i, none⟩ = some (.slice (some ⟨b, 0, none⟩) m c)) (ds := [10]) (Jb 11 0) (by kernel_rfl) rfl (by kernel_rfl) ⟨HX5.out, HCELL.out⟩ (fun hHeld => ?_)
         refine Jp 0 89 (Jb 11 1) rfl rfl ?_
         refine Jk 1 90 (Jb 11 3) rfl rfl hHeld (.inl ⟨by rfl, by rintro w' ⟨s0, s1⟩; go_simp; with_reducible rfl⟩) ?_
         refine Jp 2 91 (Jb 11 7) rfl rfl ?_
         refine Jp 3 92 (Jb 11 15) rfl rfl ?_
         refine Jk 4 93 (Jb 11 31) rfl rfl hHeld (.inl ⟨by rfl, by rintro w' ⟨s0, s1⟩; go_simp; with_reducible rfl⟩) ?_
         refine Jp 5 94 (Jb 11 63) rfl rfl ?_
         refine Jp 6 95 (Jb 11 127) rfl rfl ?_
         refine Jp 7 96 (Jb 11 255) rfl rfl ?_
         refine one_ (i := 8) (N := some 97) (Jb 11 511) rfl rfl (by kernel_rfl) (by decide) (fun K hK => ?_)
         refine goes_ Try.func57 (by kernel_rfl) rfl #[.int .i64 n, .int .i64 i] (by rfl) rfl rfl (by (try simp only [List.map_toArray, List.map_cons, List.map_nil]); first | done | rfl) ?_
         refine (mask_go n i _).mono ?_
         rintro e w1 ⟨rfl, hb1⟩
         refine ⟨_, rfl, ?_⟩
         have hb2 : Below wr.heap.size wr w1 := below_then (below_drew (Below.refl wr.heap.size wr)) (Nat.le_refl _) hb1
         have hS1 := And.intro (pw_cell_below hb2 HX5.out) (pw_cell_below hb2 HCELL.out)
         have hput := (HM.out.move hb2).putM HV.out HC.out (by rw [HCL.out]; exact hkm) (mskI n i)
         have HST := jA hput.1
         have HF := jA hput.2
         have HKN := jA (HK.out.put HCUR.out (by rw [HCL.out]; exact hkm))
         clear hb1 hb2 hput
         refine hK.out _ _ hS1 (fun hHeld => ?_)
         clear hK K hS1
         refine norm_ (a' := ?_) ?_ ?_; rotate_left; (show Act.put _ (some 97) _ = _; simp only [Act.put, Jq, Jr, Js]; rfl)
         refine Jp 9 98 (Jb 11 1023) rfl rfl ?_
         refine last_ (i := 10) (N := none) (Jb 11 2047) rfl rfl (by kernel_rfl) (by decide) (fun K hK => ?_)
         refine skip_ rfl rfl (by have hst := HST.out; first | (simp [execOp, Act.eval, hst]; done) | (show Sem.run Try.prog _ _ = _; simp only [execOp, Act.eval]; simp; rw [hst]; rfl)) ?_
         refine hK.out _ _ ?_
         clear hK K HST hHeld
         refine done_ (by kernel_rfl) ?_
         generalize World.setCell w1 ⟨b, k, none⟩ (.int .u16 (mskI n i)) = wf at HF ⊢
         go_wp2
         go_roundw
         case rel => exact ⟨k + 1, _, by omega, by go_num, HKN, HF⟩
         case measure => simp [intOf]; omega
        ·have Zb : ¬ ((k : Int) < m) := by omega
         have HKN := jA (HK.out.next (by rw [hcl]; omega))
         clear hv hc hcl hcur
         go_wp2
         go_roundw
         case rel => exact ⟨i + 1, _, by omega, by go_num, HKN, HM⟩
         case measure => simp [intOf]; omega
      ·have hi3 : i = ms.length := by omega
       subst hi3
       have hlt' : ¬ ((ms.length : Int) < ms.length) := by omega
       have HFM := jA (HK.out.full)
       have HEM := jA (HK.out.each)
       have HLM := jA (HK.out.len)
       clear hlt hi HK
       go_wp2
       (try simp only [Exit.inBlock, Exit.then])
       refine bodyPost_end (results_none rfl _ _ _) rfl ?_
       refine ⟨⟨_, rfl⟩, ?_⟩
       obtain ⟨la', ls', lo', rfl⟩ := three HLS.out
       obtain ⟨of', on', rfl⟩ := two HLI.out
       have f0 := HES.out 0
       have f1 := HES.out 1
       have f2 := HES.out 2
       have f3 := HEI.out 0
       have f4 := HEI.out 1
       simp only [List.getD_cons_zero, List.getD_cons_succ] at f0 f1 f2 f3 f4
       have r0 := HM.out.str.each 0 _ _ rfl rfl
       have r1 := HM.out.str.each 1 _ _ rfl rfl
       have r2 := HM.out.str.each 2 _ _ rfl rfl
       have r3 := HM.out.num.each 0 _ _ rfl rfl
       have r4 := HM.out.num.each 1 _ _ rfl rfl
       have r5 := HM.out.raw
       rw [← f0] at r0
       rw [← f1] at r1
       rw [← f2] at r2
       rw [← f3] at r3
       rw [← f4] at r4
       rw [← HLM.out] at r5
       have a01 := H.out.a01
       have a02 := H.out.a02
       have a12 := H.out.a12
       have a34 := H.out.a34
       simp only [] at a01 a02 a12 a34
       rw [← f0, ← f1] at a01
       rw [← f0, ← f2] at a02
       rw [← f1, ← f2] at a12
       rw [← f3, ← f4] at a34
       exact ⟨⟨A0, c0, la', A1, c1, ls', A2, c2, lo', A3, c3, of', A4, c4, on', A5, c5, LM⟩, ⟨rfl, rfl, rfl, rfl, rfl, rfl, rfl, rfl, rfl, rfl, rfl, rfl, f0, f1, f2, f3, f4, HLM.out, HEM.out, HFS.out, HFI.out, HFM.out⟩,
        ⟨r0, r1, r2, r3, r4, r5, rows_fam HM.out.row, H.out.lt, a01, a02, a12, a34⟩, same_from HB0.out HM.out.same⟩
end Go.Proofs.Ythaiodklfoegiaa.OMarkW
/- What is gone on with stays as it was. -/
namespace Go.Proofs.Ythaiodklfoegiaa.OGr
open Go.RowKit YthaiodklfoegiaaW.PrintWords YthaiodklfoegiaaW.PrintLast YthaiodklfoegiaaW.PrintMore CSame GValid GDiffer MSide MPol OBase OMark OMarkW Go.Maps
open PG
def Went (W w1 : World) (v v1 : Value) (n m : Nat) : Prop :=
 (∃ g cap, v = .slice (some ⟨g, 0, none⟩) n cap ∧ v1 = .slice (some ⟨g, 0, none⟩) (n + m) cap ∧ W.grownBy w1 (some g)) ∨
 (∃ g cap, v1 = .slice (some ⟨g, 0, none⟩) (n + m) cap ∧ W.heap.size ≤ g ∧ W.grownBy w1 none)
theorem run_append_two {P : Program} (w : World) (base : Nat) (t ty e : TypeId) (i : TypeInfo) (z : Value) (ht : P.underlying t = some (.slice e)) (hi : P.info? e = some i) (hz : i.zero = some z)
  (hzs : z.cells.size = i.size) (v : Value) (n : Nat) (xs : List Value) (hown : w.ownsRow base e i.size v n xs)
  (a : Addr) (m c : Nat) (news : List Value) (hl : news.length = m * i.size) (hm : 0 < m) (hnews : ∀ j u, news[j]? = some u → w.cell? (a.add j) = some u) (h1 : ∀ u ∈ news, u.oneCell' = true)
  (hbytes : (n + m) * i.bytes ≤ 140737488355328) (hby : 0 < i.bytes) (hbase : base ≤ w.heap.size) :
  ∃ v' w', (Builtin.append_ #[t, t] ty #[v, .slice (some a) m c]).run P w = .ok v' w' ∧ w'.ownsRow base e i.size v' (n + m) (xs ++ news) ∧ Went w w' v v' n m := by
 have hmax : n + m ≤ 140737488355328 := Nat.le_trans (Nat.le_mul_of_pos_right _ hby) hbytes
 have h63 : n + m ≤ maxLen := by simp only [maxLen]; omega
 have hlen : (xs ++ news).length = (n + m) * i.size := by rw [List.length_append, hown.1, hl, Nat.add_mul]
 have big : ∀ old : Nat, (w.drew.alloc (.cells (xs.toArray ++ news.toArray ++ Builtin.zeroCells z.cells (grownCap w (n + m) old e - (n + m))) e)).ownsRow base e i.size (.slice (some ⟨w.heap.size, 0, none⟩) (n + m) (grownCap w (n + m) old e)) (n + m) (xs ++ news) := by
  intro old
  have hge := grownCap_ge w (n + m) old e
  refine ⟨hlen, .inr ⟨w.heap.size, _, _, rfl, hbase, heap_alloc_new w.drew _, hge, grownCap_le_maxLen w (n + m) old e h63, ?_, ?_⟩⟩
  ·have : (n + m) * i.size + (grownCap w (n + m) old e - (n + m)) * i.size = grownCap w (n + m) old e * i.size := by rw [← Nat.add_mul]; congr 1; omega
   simp only [Array.size_append, List.size_toArray, size_zeroCells, hzs]
   rw [← this, ← hlen, List.length_append]
  ·simp only [Array.toList_append]
   rw [← hlen]
   exact List.take_left
 have far : ∀ o : Obj, w.grownBy (w.drew.alloc o) none := fun o => ⟨rfl, rfl, rfl, by simp, fun k hk _ => Below.heap_alloc w.drew o k hk⟩
 rcases hown.2 with ⟨rfl, rfl⟩ | ⟨g, cap, cur, rfl, hbg, hg, hnc, hcm, hcs, htake⟩
 ·have hx : xs = [] := List.eq_nil_of_length_eq_zero (by simpa using hown.1)
  subst hx
  have hr := run_append_nil (P := P) w t ty e i z ht hi hz a m c news hl hnews hm (by omega) (by have hb := hbytes; rw [Nat.zero_add] at hb; omega)
  have hb := big 0
  simp only [Nat.zero_add, List.nil_append, Array.empty_append] at hb
  exact ⟨_, _, hr, by simpa using hb, .inr ⟨_, _, by rw [Nat.zero_add], Nat.le_refl _, far _⟩⟩
 ·by_cases hroom : n + m ≤ cap
  ·have hfit : n * i.size + news.length ≤ cur.size := by rw [hl, hcs, ← Nat.add_mul]; exact Nat.mul_le_mul_right _ hroom
   have hr := run_append_room (P := P) w t ty e i ht hi g n cap cur hg a m c news hl hnews h1 hroom hfit
   refine ⟨_, _, hr, ⟨hlen, .inr ⟨g, cap, _, rfl, hbg, setRow_heap w g cur _ e _ hg, hroom, hcm, ?_, ?_⟩⟩, .inl ⟨g, cap, rfl, rfl, rfl, rfl, rfl, by simp, fun k _ hk => setRow_other w g k _ (fun e => hk (by rw [e]))⟩⟩
   ·simp only [List.size_toArray, List.length_append, List.length_take, List.length_drop, Array.length_toList]
    omega
   ·show List.take _ (_ ++ news ++ _) = _
    rw [htake, ← hlen]
    exact List.take_left
  ·have hr := run_append_grow (P := P) w t ty e i z ht hi hz ⟨g, 0, none⟩ n cap xs hown.1 (hown.cells (g := g) rfl) a m c news hl hnews (by omega) (by omega) (growslice_fits (by omega) hbytes)
   exact ⟨_, _, hr, big cap, .inr ⟨_, _, rfl, Nat.le_refl _, far _⟩⟩
theorem Went.row {W w1 : World} {v v1 : Value} {n m : Nat} (h : Went W w1 v v1 n m) : W.grownBy w1 v.ownBlock ∧ (v1.ownBlock = v.ownBlock ∨ ∃ b, v1.ownBlock = some b ∧ W.heap.size ≤ b) := by
 rcases h with ⟨g, cap, rfl, rfl, hg⟩ | ⟨g, cap, rfl, hb, hg⟩
 ·exact ⟨hg, .inl rfl⟩
 ·exact ⟨⟨hg.os, hg.tape, hg.output, hg.size, fun k hk _ => hg.block k hk (by simp)⟩, .inr ⟨g, rfl, hb⟩⟩
section
variable {P : Program} {ops : Array Oper} {rest : List Oper} {o : Oper} {a : Act} {Q : Exit → Act → World → Prop} {α : Type}
theorem R_append_two (d : Kd α) {W : World} (base : Nat) (hgd : o.guard = none) (s x : Operand) (t e : TypeId) (z : Value) (bytes : Nat)
  (ho : o.op = .call { callee := .builtin .append, args := #[s, x], argTypes := #[t, t] })
  (ht : P.underlying t = some (.slice e)) (hinfo : (P.info? e).map (fun i => (i.zero, i.size, i.bytes)) = some (some z, d.sz, bytes)) (hz : z.cells.size = d.sz) (hb0 : 0 < bytes)
  (v : Value) (xs : List α) (p : α) (cs : List Value) (ok okp : Nat → Prop) (hs : a.eval s = v) (hx : a.eval x = .slice (some ⟨W.heap.size, 0, none⟩) 1 1) (hp : d.M W base okp p cs) (hokp : ∀ k, okp k → ok k ∧ some k ≠ v.ownBlock) (hfresh : ∀ k, W.heap.size ≤ k → ok k)
  (HO : d.R e W base ok v xs) (hbase : base ≤ W.heap.size) (hl : (xs.length + 1) * bytes ≤ 140737488355328)
  (h : ∀ v1 w1, d.R e w1 base ok v1 (xs ++ [p]) → Went W w1 v v1 xs.length 1 → wpList P ops Q rest (a.put o.dst v1) w1) :
  wpList P ops Q (o :: rest) a (W.alloc (.cells cs.toArray e)) := by
 obtain ⟨h0, inner, hown, hr⟩ := HO
 obtain ⟨i0, hi, hzz⟩ := Option.map_eq_some_iff.1 hinfo
 simp only [Prod.mk.injEq] at hzz
 obtain ⟨hz0, hz1, hz2⟩ := hzz
 refine wpList_plain hgd fun K hK => ?_
 have hcs : cs.length = d.sz := d.K_len (d.K_of_M hp)
 obtain ⟨v', w', hrun, hown', hw⟩ := run_append_two (P := P) (W.alloc (.cells cs.toArray e)) base t o.type e i0 z ht hi hz0 (by rw [hz, hz1]) v xs.length inner (by rw [hz1]; exact hown.alloc _) ⟨W.heap.size, 0, none⟩ 1 1 cs (by rw [hcs, hz1]; simp) (by omega)
  (by simpa using World.news_of_block (cs := cs.toArray) (t := e) (fr := (0, 0)) (heap_alloc_new W (.cells cs.toArray e))) (d.K_one (d.K_of_M hp)) (by rw [hz2]; exact hl) (by rw [hz2]; exact hb0) (by simp; omega)
 have hw1 : Went W w' v v' xs.length 1 := by
  have up : ∀ row, (W.alloc (.cells cs.toArray e)).grownBy w' row → W.grownBy w' row := fun row hg => ⟨hg.os, hg.tape, hg.output, by have := hg.size; simp at this; omega, fun k hk hn => (hg.block k (by simp; omega) hn).trans (Below.heap_alloc W _ k hk)⟩
  rcases hw with ⟨g, cap, e1, e2, hg⟩ | ⟨g, cap, e2, hb, hg⟩
  ·exact .inl ⟨g, cap, e1, e2, up _ hg⟩
  ·exact .inr ⟨g, cap, e2, by simp at hb; omega, up _ hg⟩
 rw [hz1] at hown'
 unfold Oper.wp execOp
 simp only [ho, resolve, invoke, builtin, Sem.run_bind, Sem.run_pure, Result.andThen_ok, List.map_toArray, List.map_cons, List.map_nil, hs, hx, hrun]
 exact hK _ _ (h v' w' (Kd.R_appended h0 hr hp hokp hfresh hown' hw1.row.1 hw1.row.2) hw1)
end
theorem own_form {α : Type} {d : Kd α} {e base : Nat} {ok : Nat → Prop} {w : World} {v : Value} {xs : List α} (h : d.R e w base ok v xs) : v = .slice none 0 0 ∨ ∃ g cap, v = .slice (some ⟨g, 0, none⟩) xs.length cap := by
 obtain ⟨inner, hl, hor⟩ := Kd.R_own h
 rcases hor with ⟨h1, h2⟩ | ⟨g, cap, cur, h1, _⟩
 ·exact .inl h1
 ·exact .inr ⟨g, cap, h1⟩
theorem grown_trans {a b c : World} {row : Option Nat} (h : a.grownBy b row) (k : b.grownBy c none) : a.grownBy c row := h.trans ⟨k.os, k.tape, k.output, k.size, fun i hi _ => k.block i hi (by simp)⟩
theorem grown_refl (w : World) (row : Option Nat) : w.grownBy w row := ⟨rfl, rfl, rfl, Nat.le_refl _, fun _ _ _ => rfl⟩
theorem grown_new {a b c : World} {row : Option Nat} {g : Nat} (h : a.grownBy b row) (k : b.grownBy c (some g)) (hg : a.heap.size ≤ g) : a.grownBy c row :=
 ⟨k.os.trans h.os, k.tape.trans h.tape, k.output.trans h.output, Nat.le_trans h.size k.size, fun i hi hn => (k.block i (Nat.lt_of_lt_of_le hi h.size) (fun e => by injection e with e; omega)).trans (h.block i hi hn)⟩
theorem below_grown {a b : World} (h : Below a.heap.size a b) (row : Option Nat) : a.grownBy b row := ⟨h.os, h.tape, h.output, h.size, fun i hi _ => h.block i hi⟩
structure Gr {α : Type} (d : Kd α) (e base : Nat) (w : World) (v : Value) (xs : List α) (k : Nat) (W : World) (v1 : Value) : Prop where
 now : ∃ ys : List α, ys.length = k ∧ d.R e W base (fun _ => True) v1 (xs ++ ys)
 old : d.R e W base (fun k => k < w.heap.size) v xs
 grown : w.grownBy W v.ownBlock
 lies : (∃ g cap, v = .slice (some ⟨g, 0, none⟩) xs.length cap ∧ v1 = .slice (some ⟨g, 0, none⟩) (xs.length + k) cap) ∨ (∀ b, v1.ownBlock = some b → w.heap.size ≤ b)
theorem Gr.start {α : Type} {d : Kd α} {e base : Nat} {ok : Nat → Prop} {w : World} {v : Value} {xs : List α} (h : d.R e w base ok v xs) : Gr d e base w v xs 0 w v := by
 have h' : d.R e w base (fun _ => True) v xs := Kd.R_mono h (fun _ _ => trivial)
 refine ⟨⟨[], rfl, by rw [List.append_nil]; exact h'⟩, Kd.R_mono (Kd.R_bound h) (fun _ hk => hk.2.2.1), grown_refl _ _, ?_⟩
 rcases own_form h with rfl | ⟨g, cap, rfl⟩
 ·exact .inr (fun b hb => by simp [Value.ownBlock] at hb)
 ·exact .inl ⟨g, cap, rfl, rfl⟩
theorem Gr.move {α : Type} {d : Kd α} {e base : Nat} {w : World} {v : Value} {xs : List α} {k : Nat} {W W1 : World} {v1 : Value} (h : Gr d e base w v xs k W v1) (hb : Below W.heap.size W W1) : Gr d e base w v xs k W1 v1 := by
 obtain ⟨⟨ys, hy, hR⟩, ho, hg, hl⟩ := h
 exact ⟨⟨ys, hy, Kd.R_below hR hb⟩, Kd.R_below ho hb, grown_trans hg (below_grown hb none), hl⟩
theorem Gr.app {α : Type} {d : Kd α} {e base : Nat} {ok : Nat → Prop} {w : World} {v : Value} {xs : List α} {k : Nat} {W W1 : World} {v1 v2 : Value} {ys : List α} {y : α} (h0 : d.R e w base ok v xs) (hE : d.E = []) (h : Gr d e base w v xs k W v1) (hy : ys.length = k) (hn : d.R e W1 base (fun _ => True) v2 ((xs ++ ys) ++ [y])) (hw : Went W W1 v1 v2 (xs ++ ys).length 1) : Gr d e base w v xs (k + 1) W1 v2 := by
 have hle : w.heap.size ≤ W.heap.size := h.grown.size
 have hlen : (xs ++ ys).length = xs.length + k := by rw [List.length_append, hy]
 rw [hlen] at hw
 have hnow : ∃ zs : List α, zs.length = k + 1 ∧ d.R e W1 base (fun _ => True) v2 (xs ++ zs) := ⟨ys ++ [y], by simp [hy], by rw [← List.append_assoc]; exact hn⟩
 rcases hw with ⟨g, cap, e1, e2, hg⟩ | ⟨g, cap, e2, hb, hg⟩
 ·rcases h.lies with ⟨g', cap', f1, f2⟩ | hf
  ·rw [f2] at e1
   injection e1 with ea en ec
   injection ea with ea
   injection ea with ea
   subst ea; subst ec
   have hold : d.R e W1 base (fun k => k < w.heap.size) v xs := by
    rw [e2] at hn
    have ht := Kd.R_take (m := xs.length) hn (by simp)
    have : List.take xs.length ((xs ++ ys) ++ [y]) = xs := by simp
    rw [this] at ht
    rw [f1]
    exact Kd.R_mono (Kd.R_tight hE ht) (fun k hk => Kd.R_lt h0 k (by rw [f1]; exact hk.symm))
   refine ⟨hnow, hold, h.grown.trans (by rw [f1]; exact hg), .inl ⟨_, _, f1, by rw [e2]; rfl⟩⟩
  ·have hge : w.heap.size ≤ g := hf g (by rw [e1]; rfl)
   have hne : ∀ k, k < w.heap.size → some k ≠ some g := fun k hk e => by injection e with e; omega
   exact ⟨hnow, Kd.R_grown h.old hg (fun k hk => hne k hk), grown_new h.grown hg hge, .inr (fun b hb => by rw [e2] at hb; simp [Value.ownBlock] at hb; omega)⟩
 ·refine ⟨hnow, Kd.R_grown h.old hg (by simp), grown_trans h.grown hg, .inr (fun b hb' => by rw [e2] at hb'; simp [Value.ownBlock] at hb'; omega)⟩
section
variable {s0 s1 : Nat} {V3 V2 hs : List Value} {v5 v v1 : Value} {W1 W W' : World} {LS : List (List ByteArray)} {LI LM : List (List Int)} {i k : Nat}
theorem set_self {α : Type} {L : List α} {l : α} (h : L[i]? = some l) : L.set i l = L := by
 refine List.ext_getElem? fun j => ?_
 rw [List.getElem?_set]
 split
 ·rename_i e
  subst e
  split
  ·exact h.symm
  ·rename_i h2
   rw [List.getElem?_eq_none (by omega)]
 ·rfl
theorem Ms.goneS (h : Ms s0 s1 V3 V2 hs v5 W1 W LS LI LM) {l : List ByteArray} (hv : V3[i]? = some v) (hl : LS[i]? = some l) (hG : Gr Kd.string 9 s0 W v l k W' v1) : Ms s0 s1 V3 V2 hs v5 W1 W' LS LI LM := by
 have hR := h.str.each i _ l hv hl
 refine ⟨?_, h.num.types rfl hR (by decide) hG.grown, h.row.types rfl hR (by decide) hG.grown, R_stay rfl h.raw (fun q hq hlt => hG.grown.block q hlt (fun e => ap_types h.raw hR (by decide) q hq e.symm)), h.same.grown hG.grown (fun q hq => .inl ⟨Kd.R_base hR q hq, hR.1 q hq⟩)⟩
 have hp := h.str.put rfl hv (R_ok rfl hG.old hR.1) hG.grown
 rw [set_self hl] at hp
 exact hp
theorem Ms.goneI (h : Ms s0 s1 V3 V2 hs v5 W1 W LS LI LM) {l : List Int} (hv : V2[i]? = some v) (hl : LI[i]? = some l) (hG : Gr (Kd.int .i64) 3 s0 W v l k W' v1) : Ms s0 s1 V3 V2 hs v5 W1 W' LS LI LM := by
 have hR := h.num.each i _ l hv hl
 refine ⟨h.str.types rfl hR (by decide) hG.grown, ?_, h.row.types rfl hR (by decide) hG.grown, R_stay rfl h.raw (fun q hq hlt => hG.grown.block q hlt (fun e => ap_types h.raw hR (by decide) q hq e.symm)), h.same.grown hG.grown (fun q hq => .inl ⟨Kd.R_base hR q hq, hR.1 q hq⟩)⟩
 have hp := h.num.put rfl hv (R_ok rfl hG.old hR.1) hG.grown
 rw [set_self hl] at hp
 exact hp
theorem Ms.goneM (h : Ms s0 s1 V3 V2 hs v5 W1 W LS LI LM) {l : List Int} (hv : hs[i]? = some v) (hl : LM[i]? = some l) (hG : Gr (Kd.int .u16) 31 s0 W v l k W' v1) : Ms s0 s1 V3 V2 hs v5 W1 W' LS LI LM := by
 have hR := h.row.each i _ l hv hl
 refine ⟨h.str.types rfl hR (by decide) hG.grown, h.num.types rfl hR (by decide) hG.grown, ?_, R_stay rfl h.raw (fun q hq hlt => hG.grown.block q hlt (fun e => ap_types h.raw hR (by decide) q hq e.symm)), h.same.grown hG.grown (fun q hq => .inl ⟨Kd.R_base hR q hq, hR.1 q hq⟩)⟩
 have hp := h.row.put rfl hv (R_ok rfl hG.old hR.1) hG.grown
 rw [set_self hl] at hp
 exact hp
theorem Ms.goneR (h : Ms s0 s1 V3 V2 hs v5 W1 W LS LI LM) (hG : Gr (Kd.raw 1) 32 s0 W v5 (hs.map hd1) k W' v1) : Ms s0 s1 V3 V2 hs v5 W1 W' LS LI LM := by
 have hR := h.raw
 exact ⟨h.str.types rfl hR (by decide) hG.grown, h.num.types rfl hR (by decide) hG.grown, h.row.types rfl hR (by decide) hG.grown, R_ok rfl hG.old hR.1, h.same.grown hG.grown (fun q hq => .inl ⟨Kd.R_base hR q hq, hR.1 q hq⟩)⟩
end
end Go.Proofs.Ythaiodklfoegiaa.OGr
/- Valid's end, in plain words: lines filled up to 64 masks. -/
namespace Go.Proofs.Ythaiodklfoegiaa.VPure
open Go.RowKit YthaiodklfoegiaaW.PrintWords GBlk
def mat (ms : List (List Int)) (a b : Nat) : Int := (ms.getD a []).getD b 0
def partM (ms : List (List Int)) (i j a b : Nat) : Int := if a < i ∨ (a = i ∧ b < j) then mat ms a b else 0
theorem part_next (ms : List (List Int)) (i j a b : Nat) : (if a = i ∧ b = j then mat ms i j else partM ms i j a b) = partM ms i (j + 1) a b := by
 unfold partM
 by_cases h : a = i ∧ b = j
 ·obtain ⟨rfl, rfl⟩ := h
  rw [if_pos ⟨rfl, rfl⟩, if_pos (by omega)]
 ·rw [if_neg h]
  by_cases h2 : a < i ∨ (a = i ∧ b < j)
  ·rw [if_pos h2, if_pos (by omega)]
  ·rw [if_neg h2, if_neg (by omega)]
theorem part_row (ms : List (List Int)) (i j a b : Nat) (h : (ms.getD i []).length = j) : partM ms i j a b = partM ms (i + 1) 0 a b := by
 unfold partM
 by_cases h2 : a < i ∨ (a = i ∧ b < j)
 ·rw [if_pos h2, if_pos (by omega)]
 ·rw [if_neg h2]
  by_cases h3 : a < i + 1 ∨ (a = i + 1 ∧ b < 0)
  ·rw [if_pos h3]
   have : a = i := by omega
   subst this
   have hb : (ms.getD a []).length ≤ b := by omega
   unfold mat
   rw [List.getD_eq_getElem?_getD, List.getElem?_eq_none hb]; rfl
  ·rw [if_neg h3]
section
variable (la ls lo : List ByteArray) (of on : List Int) (ms : List (List Int)) (m : Nat)
end
end Go.Proofs.Ythaiodklfoegiaa.VPure
/- graph.Valid, walked: the main way. -/
namespace Go.Proofs.Ythaiodklfoegiaa.GValid
open Go.RowKit YthaiodklfoegiaaW.PrintWords YthaiodklfoegiaaW.PrintLast YthaiodklfoegiaaW.PrintMore BMap BRow GDiffer GBlk VPure Go.Maps
structure St (g : G) (w wr : World) (gr gc m i j : Nat) : Prop where
 boxed : Boxed g w wr
 rows : Blk wr gr g.ms.length (partM g.ms i j)
 cols : Blk wr gc m (fun b a => partM g.ms i j a b)
 shape : ∀ a, a < i → (g.ms.getD a []).length = m ∧ ∀ x ∈ g.ms.getD a [], x < 2 ^ g.la.length
 row : ∀ b, b < j → mat g.ms i b < 2 ^ g.la.length
theorem Boxed.set {g : G} {w w1 : World} (h : Boxed g w w1) {b : Nat} (hb : w.heap.size < b) (j : Nat) (v : Value) : Boxed g w (w1.setCell ⟨b, j, none⟩ v) :=
 ⟨below_set h.below (Nat.le_of_lt hb), by rw [Below.heap_setCell _ _ _ _ (by show w.heap.size ≠ b; omega)]; exact h.box⟩
theorem St.next {g : G} {w wr : World} {gr gc m i j : Nat} (h : St g w wr gr gc m i j) (hne : gr ≠ gc) (hgr : w.heap.size < gr) (hgc : w.heap.size < gc) (hi : i < 64) (hj : j < 64) (x : Int) (hx : mat g.ms i j = x) (hlt : x < 2 ^ g.la.length) :
  St g w ((wr.setCell ⟨gr, i * 64 + j, none⟩ (.int .u16 x)).setCell ⟨gc, j * 64 + i, none⟩ (.int .u16 x)).drew gr gc m i (j + 1) where
 boxed := by
  have := (h.boxed.set hgr (i * 64 + j) (.int .u16 x)).set hgc (j * 64 + i) (.int .u16 x)
  exact ⟨this.below.drew, this.box⟩
 rows := by
  have := ((h.rows.set (i := i) hj x).far (a := ⟨gc, j * 64 + i, none⟩) (by show gr ≠ gc; exact hne) (.int .u16 x)).congr (F' := partM g.ms i (j + 1)) (fun a b _ _ => by
   subst hx; exact part_next g.ms i j a b)
  exact this
 cols := by
  have := ((h.cols.far (a := ⟨gr, i * 64 + j, none⟩) (by show gc ≠ gr; exact hne.symm) (.int .u16 x)).set (i := j) hi x).congr (F' := fun b a => partM g.ms i (j + 1) a b) (fun b a _ _ => by
   subst hx
   have := part_next g.ms i j a b
   rw [← this]
   by_cases e : a = i ∧ b = j
   ·rw [if_pos e, if_pos e.symm]
   ·rw [if_neg e, if_neg (fun k => e k.symm)])
  exact this
 shape := h.shape
 row := fun b hb => by
  by_cases e : b = j
  ·subst e; rw [hx]; exact hlt
  ·exact h.row b (by omega)
theorem St.nextRow {g : G} {w wr : World} {gr gc m i : Nat} (h : St g w wr gr gc m i m) (hm : (g.ms.getD i []).length = m) : St g w wr gr gc m (i + 1) 0 where
 boxed := h.boxed
 rows := h.rows.congr fun a b _ _ => part_row g.ms i m a b hm
 cols := h.cols.congr fun b a _ _ => part_row g.ms i m a b hm
 shape := fun a ha => by
  by_cases e : a = i
  ·subst e
   refine ⟨hm, fun x hx => ?_⟩
   obtain ⟨b, hb, rfl⟩ := List.getElem_of_mem hx
   have := h.row b (by omega)
   unfold mat at this
   have e : (g.ms.getD a []).getD b 0 = (g.ms.getD a [])[b] := by rw [List.getD_eq_getElem?_getD, List.getElem?_eq_getElem hb, Option.getD_some]
   rw [e] at this
   exact this
  ·exact h.shape a (by omega)
 row := fun b hb => by omega
theorem madeBlk (w : World) (n : Nat) : Blk (w.alloc (made n)) w.heap.size n (fun _ _ => 0) := Blk.made w n _ rfl
theorem Boxed.lt {g : G} {w w1 : World} (h : Boxed g w w1) : w.heap.size < w1.heap.size := (Array.getElem?_eq_some_iff.1 h.box).1
end Go.Proofs.Ythaiodklfoegiaa.GValid
/- graph.Compile, walked: its answer is its holder's own, down to the rows. -/
namespace Go.Proofs.Ythaiodklfoegiaa.COwn
open Go.RowKit YthaiodklfoegiaaW.PrintWords YthaiodklfoegiaaW.PrintLast YthaiodklfoegiaaW.PrintMore BMap BRow GDiffer GBlk CPure CBits CClasses CMasks CClone CSame GValid OBase MLines MSide MPol Go.Maps
open PG
theorem z26 (w : World) : (zeroValue 26).run Try.prog w = .ok (.agg #[.slice none 0 0, .slice none 0 0, .slice none 0 0, .slice none 0 0, .slice none 0 0, .slice none 0 0]) w := by kernel_rfl
theorem i26 : (Try.prog.info? 26).map (·.size) = some 6 := by kernel_rfl
abbrev gV (v0 v1 v2 v3 v4 v5 : Value) : Array Value := #[v0, v1, v2, v3, v4, v5]
abbrev S3 (g3 gr gc : Nat) : Nat → Prop := fun b => b = g3 ∨ b = gr ∨ b = gc
structure Lp (d : PolD) (g3 gr gc : Nat) (WB wr : World) (u0 v1 u2 : Value) (ns : List ByteArray) (i j : Nat) : Prop where
 same : Same (S3 g3 gr gc) WB wr
 g : Stays wr g3 (gV u0 v1 u2 (.slice none 0 0) (.slice none 0 0) (.slice none 0 0)) 26
 r1 : Kd.R Kd.string 9 wr WB.heap.size (fun _ => True) v1 ns
 rows : Blk wr gr d.subs.length (prt (fill d.objs.length (matD d)) i j)
 cols : Blk wr gc d.objs.length (fun b a => prt (fill d.objs.length (matD d)) i j a b)
theorem blk_of {W w1 : World} {g n : Nat} {F : Nat → Nat → Int} (hB : Blk W g n F) (e : w1.heap[g]? = W.heap[g]?) : Blk w1 g n F := World.rowIs.of_block hB e
namespace Lp
variable {d : PolD} {g3 gr gc : Nat} {WB wr w1 : World} {u0 v1 u2 v' : Value} {ns ns' : List ByteArray} {i j : Nat}
theorem move (h : Lp d g3 gr gc WB wr u0 v1 u2 ns i j) (hb : Below wr.heap.size wr w1) : Lp d g3 gr gc WB w1 u0 v1 u2 ns i j :=
 ⟨h.same.move hb, h.g.below hb, Kd.R_below h.r1 hb, h.rows.below hb, h.cols.below hb⟩
theorem blk_ne {e : Nat} {base : Nat} {ok : Nat → Prop} {v : Value} {xs : List ByteArray} {W : World} (h : Kd.R Kd.string e W base ok v xs) {g n : Nat} {F : Nat → Nat → Int} (hB : Blk W g n F) (ht : e ≠ 65) : some g ≠ v.ownBlock := by
 obtain ⟨c, hb, _⟩ := hB
 exact Kd.R_ne h hb ht
theorem app (h : Lp d g3 gr gc WB wr u0 v1 u2 ns i j) (hr : Kd.R Kd.string 9 w1 WB.heap.size (fun _ => True) v' ns') (hg : wr.grownBy w1 v1.ownBlock) (n1 : gr ≠ g3) (n2 : gc ≠ g3) : Lp d g3 gr gc WB (w1.setCell ⟨g3, 1, none⟩ v') u0 v' u2 ns' i j where
 same := (h.same.grown hg (fun k hk => by
  obtain ⟨inner, ho⟩ := Kd.R_own h.r1
  exact .inr (own_base ho k hk))).set (.inl (.inl rfl)) v'
 g := stays_set ((hg.block _ (Array.getElem?_eq_some_iff.1 h.g).1 (Kd.R_ne h.r1 h.g (by decide))).trans h.g) 1 v'
 r1 := R_set hr ((hg.block _ (Array.getElem?_eq_some_iff.1 h.g).1 (Kd.R_ne h.r1 h.g (by decide))).trans h.g) (by decide) 1 v'
 rows := Blk.far (blk_of h.rows (hg.block _ h.rows.lt (blk_ne h.r1 h.rows (by decide)))) (by exact n1) v'
 cols := Blk.far (blk_of h.cols (hg.block _ h.cols.lt (blk_ne h.r1 h.cols (by decide)))) (by exact n2) v'
theorem put (h : Lp d g3 gr gc WB wr u0 v1 u2 ns i j) (n0 : gr ≠ gc) (n1 : gr ≠ g3) (n2 : gc ≠ g3) (hi : i < 64) (hj : j < 64) (x : Int) (hx : fill d.objs.length (matD d) i j = x) :
  Lp d g3 gr gc WB ((wr.setCell ⟨gr, i * 64 + j, none⟩ (.int .u16 x)).setCell ⟨gc, j * 64 + i, none⟩ (.int .u16 x)).drew u0 v1 u2 ns i (j + 1) where
 same := ((h.same.set (.inl (.inr (.inl rfl))) _).set (.inl (.inr (.inr rfl))) _).drew
 g := stays_far (stays_far h.g (by exact n1.symm) _) (by exact n2.symm) _
 r1 := by
  obtain ⟨c1, hb1, _⟩ := h.rows
  obtain ⟨c2, hb2, _⟩ := h.cols.far (a := ⟨gr, i * 64 + j, none⟩) (by show gc ≠ gr; exact n0.symm) (.int .u16 x)
  exact R_set (R_set h.r1 hb1 (by decide) _ _) hb2 (by decide) _ _
 rows := by
  have := ((h.rows.set (i := i) hj x).far (a := ⟨gc, j * 64 + i, none⟩) (by show gr ≠ gc; exact n0) (.int .u16 x)).congr (F' := prt (fill d.objs.length (matD d)) i (j + 1)) (fun a b _ _ => by
   subst hx; exact prt_next _ i j a b)
  exact this
 cols := by
  have := ((h.cols.far (a := ⟨gr, i * 64 + j, none⟩) (by show gc ≠ gr; exact n0.symm) (.int .u16 x)).set (i := j) hi x).congr (F' := fun b a => prt (fill d.objs.length (matD d)) i (j + 1) a b) (fun b a _ _ => by
   subst hx
   have := prt_next (fill d.objs.length (matD d)) i j a b
   rw [← this]
   by_cases e : a = i ∧ b = j
   ·rw [if_pos e, if_pos e.symm]
   ·rw [if_neg e, if_neg (fun k => e k.symm)])
  exact this
theorem nextRow (h : Lp d g3 gr gc WB wr u0 v1 u2 ns i d.objs.length) : Lp d g3 gr gc WB wr u0 v1 u2 ns (i + 1) 0 :=
 ⟨h.same, h.g, h.r1, h.rows.congr fun a b _ _ => prt_row _ _ i a b, h.cols.congr fun b a _ _ => prt_row _ _ i a b⟩
end Lp
theorem made_two (w2 : World) (n m : Nat) : Blk ((w2.alloc (made n)).alloc (made m)).drew w2.heap.size n (fun _ _ => 0) ∧ Blk ((w2.alloc (made n)).alloc (made m)).drew (w2.heap.size + 1) m (fun _ _ => 0) ∧ Below w2.heap.size w2 ((w2.alloc (made n)).alloc (made m)).drew := by
 refine ⟨(madeBlk w2 n).below ((Below.refl _ _).alloc (Nat.le_refl _) _).drew, ?_, below_drew (below_alloc (below_alloc (Below.refl _ _) _) _)⟩
 have := madeBlk (w2.alloc (made n)) m
 rw [World.size_alloc] at this
 exact this.drew
theorem classes_to (A : Option Addr) (c : Nat) (ls : List (List Int)) (w : World) (n : Nat) (hn : ls.length = n) (hC : kLine.C w A n ls) (hok : ∀ l ∈ ls, lineOk l) (hl : n ≤ 64) :
  Calls Try.prog 49 #[.slice A n c] w fun e w' => ∃ v4 v5, e = .returned (.tuple #[v4, v5]) ∧ Kd.R (Kd.int .i64) 3 w' w.heap.size (fun _ => True) v4 (numsOf ls) ∧ Kd.R (Kd.int .i64) 3 w' w.heap.size (fun _ => True) v5 (firstsOf ls) ∧ Below w.heap.size w w' := by
 subst hn; exact classes_calls A c ls w hC hok hl
theorem info32 : (Try.prog.info? 32).map (fun i => (i.zero, i.size, i.bytes)) = some (some (.slice none 0 0), 1, 24) := by kernel_rfl
theorem make_row (m : Nat) (hm : m ≤ 64) (w : World) : (Instr.makeSlice 32 (.int .i64 0) (.int .i64 (m : Int))).run Try.prog w = .ok (.slice (some ⟨w.heap.size, 0, none⟩) 0 m) (w.alloc (.cells (madeCells #[.int .u16 0] m) 31)) := by
 have h : (Try.prog.info? 31).map (fun i => (i.zero, i.size, i.bytes)) = some (some (.int .u16 0), 1, 2) := PG.info31
 obtain ⟨i, h1, hz⟩ := Option.map_eq_some_iff.1 h
 simp only [Prod.mk.injEq] at hz
 obtain ⟨h2, h3, h4⟩ := hz
 have := run_make (P := Try.prog) w 32 31 i _ Try.underlying32 h1 h2 .i64 .i64 0 m (by omega) (by omega) (by rw [h4]; omega) (by omega)
 rw [h3] at this
 simpa [Value.cells] using this
theorem row_none (w : World) (m : Nat) (hm : m ≤ 64) : Kd.R (Kd.int .u16) 31 (w.alloc (.cells (madeCells #[.int .u16 0] m) 31)) w.heap.size (fun _ => True) (.slice (some ⟨w.heap.size, 0, none⟩) 0 m) [] := by
 have h2 : (w.alloc (.cells (madeCells #[.int .u16 0] m) 31)).ownsRow w.heap.size 31 1 (.slice (some ⟨w.heap.size, 0, none⟩) 0 m) ([] : List Int).length (encs (Value.int .u16) []) := by
  have e : (List.replicate m (0 : Int)).length = m := by simp
  have h0 := own_made' w w.heap.size 31 .u16 m (Nat.le_refl _) (by omega)
  rw [e] at h0
  have h1 := own_take (m := 0) h0 (Nat.zero_le _)
  simpa [encs] using h1
 exact Kd.R_of_own (h1 := fun _ => rfl) h2 (fun _ _ => trivial)
abbrev S1 (g3 : Nat) : Nat → Prop := fun b => b = g3
theorem offG {α : Type} {dk : Kd α} {e base g3 : Nat} {ok : Nat → Prop} {w : World} {v : Value} {xs : List α} {cs : Array Value} (h : dk.R e w base ok v xs) (hg : Stays w g3 cs 26) (ht : ∀ q, q ∈ e :: dk.E → q ≠ 26) : dk.R e w base (fun k => ¬ S1 g3 k) v xs := Kd.R_mono (Kd.R_types h hg ht) (fun _ hk => hk.2)
structure Mk (g3 : Nat) (W wr : World) (u0 v1 u2 v4 v6 vm : Value) (hs : List Value) (ms : List (List Int)) : Prop where
 same : Same (S1 g3) W wr
 g : Stays wr g3 (gV u0 v1 u2 v4 v6 vm) 26
 raw : Kd.R (Kd.raw 1) 32 wr W.heap.size (fun _ => True) vm (hs.map hd1)
 rows : Rws wr W.heap.size hs ms
namespace Mk
variable {g3 : Nat} {W wr w1 : World} {u0 v1 u2 v4 v6 vm v' : Value} {hs : List Value} {ms : List (List Int)}
theorem move (h : Mk g3 W wr u0 v1 u2 v4 v6 vm hs ms) (hb : Below wr.heap.size wr w1) : Mk g3 W w1 u0 v1 u2 v4 v6 vm hs ms := ⟨h.same.move hb, h.g.below hb, Kd.R_below h.raw hb, h.rows.below hb⟩
def Older (vm : Value) (hs : List Value) (B : Nat) : Prop := (∀ k, vm.ownBlock = some k → k < B) ∧ ∀ v ∈ hs, ∀ k, v.ownBlock = some k → k < B
theorem older (h : Mk g3 W wr u0 v1 u2 v4 v6 vm hs ms) : Older vm hs wr.heap.size := ⟨Kd.R_lt h.raw, h.rows.lt⟩
theorem row {B : Nat} (h : Mk g3 W wr u0 v1 u2 v4 v6 vm hs ms) (ho : Older vm hs B) (hB : W.heap.size ≤ B) {vr : Value} (hr : ∀ k, vr.ownBlock = some k → B ≤ k) (hg : wr.grownBy w1 vr.ownBlock) (hne : some g3 ≠ vr.ownBlock) : Mk g3 W w1 u0 v1 u2 v4 v6 vm hs ms :=
 ⟨h.same.grown hg (fun k hk => .inr (Nat.le_trans hB (hr k hk))), (hg.block _ (Array.getElem?_eq_some_iff.1 h.g).1 hne).trans h.g,
  R_stay rfl h.raw (fun k hk hl => hg.block k hl (fun e => by have h1 := ho.1 k hk; have h2 := hr k e.symm; omega)),
  h.rows.stay (fun v hv k hk hl => hg.block k hl (fun e => by have h1 := ho.2 v hv k hk; have h2 := hr k e.symm; omega))⟩
theorem app (h : Mk g3 W wr u0 v1 u2 v4 v6 vm hs ms) {vr : Value} {rl : List Int} (hr : Kd.R (Kd.raw 1) 32 w1 W.heap.size (fun _ => True) v' (hs.map hd1 ++ [hd1 vr])) (hg : wr.grownBy w1 vm.ownBlock) (hv : Kd.R (Kd.int .u16) 31 wr W.heap.size (fun _ => True) vr rl) (ha : ∀ u ∈ hs, Ap u vr) : Mk g3 W (w1.setCell ⟨g3, 5, none⟩ v') u0 v1 u2 v4 v6 v' (hs ++ [vr]) (ms ++ [rl]) where
 same := (h.same.grown hg (fun k hk => by
  obtain ⟨inner, ho⟩ := Kd.R_own h.raw
  exact .inr (own_base ho k hk))).set (.inl rfl) v'
 g := stays_set ((hg.block _ (Array.getElem?_eq_some_iff.1 h.g).1 (Kd.R_ne h.raw h.g (by decide))).trans h.g) 5 v'
 raw := by
  rw [List.map_append]
  exact R_set hr ((hg.block _ (Array.getElem?_eq_some_iff.1 h.g).1 (Kd.R_ne h.raw h.g (by decide))).trans h.g) (by decide) 5 v'
 rows := by
  have h1 : Rws w1 W.heap.size (hs ++ [vr]) (ms ++ [rl]) := (h.rows.snoc hv ha).stay (fun v hm k hk hl => hg.block k hl (fun e => by
   obtain ⟨r, hr'⟩ := (h.rows.snoc hv ha).at hm
   exact ap_types hr' h.raw (by decide) k hk e.symm))
  refine h1.stay (fun v hm k hk _ => heap_setCell_other _ _ _ _ (fun e => ?_))
  obtain ⟨c, hc⟩ := h1.typed v hm k hk
  have hG : Stays w1 g3 (gV u0 v1 u2 v4 v6 vm) 26 := (hg.block _ (Array.getElem?_eq_some_iff.1 h.g).1 (Kd.R_ne h.raw h.g (by decide))).trans h.g
  have e : k = g3 := e
  subst e
  rw [show w1.heap[k]? = _ from hG] at hc
  cases hc
end Mk
theorem compile_own (p : Pol) (w : World) (hp : p.In w) (hd : p.d.Ok) (hs : p.d.subs.length ≤ 64) (ho : p.d.objs.length ≤ 64) (ha : p.d.acts.length ≤ 16) :
  Calls Try.prog 16 #[.agg p.cells] w fun e w' => ∃ g : G, e = .returned g.val ∧ (∃ hs, Own w' w.heap.size w'.heap.size g hs) ∧ (∀ row ∈ g.ms, ∀ x ∈ row, (Lit.int .u16 x).wf = true) ∧ g.la = p.d.acts ∧ g.ls = p.d.subs.map (·.f0) ∧ g.lo = p.d.objs ∧ g.of = ofM p.d.subs.length p.d.objs.length (matD p.d) ∧ g.on = ofM p.d.objs.length p.d.subs.length (fun j i => matD p.d i j) ∧ g.ms = masksM p.d.subs.length p.d.objs.length (matD p.d) ∧ Below w.heap.size w w' := by
 obtain ⟨d, A0, c0, A1, c1, A2, c2, A3, c3, A4, c4, A5, c5, A6, c6, A7, c7, A8, c8, A9, c9, A10, c10⟩ := p
 have HP := jA hp
 have HD := jA hd
 have hs : d.subs.length ≤ 64 := hs
 have ho : d.objs.length ≤ 64 := ho
 have ha : d.acts.length ≤ 16 := ha
 clear hp hd
 have Za : Stays (w.alloc (.cells (Pol.cells (Pol.mk d A0 c0 A1 c1 A2 c2 A3 c3 A4 c4 A5 c5 A6 c6 A7 c7 A8 c8 A9 c9 A10 c10)) 39)) w.heap.size (Pol.cells (Pol.mk d A0 c0 A1 c1 A2 c2 A3 c3 A4 c4 A5 c5 A6 c6 A7 c7 A8 c8 A9 c9 A10 c10)) 39 := heap_alloc_new w _
 have e0 := Za.cell 0
 have e1 := Za.cell 1
 have e3 := Za.cell 3
 simp only [Pol.cells, Jt, Ju, Jv] at e0 e1 e3
 have HST := jA Za
 clear Za
 unfold Pol.cells
 unfold Pol.cells at HST
 simp only [] at HST e0 e1 e3 ⊢
 have hz := z26
 go_enter Try.func16, Try.ntmps16
 go_upto_region 3 with fail
 clear hz e0 e1 e3
 have hW0s : Stays ((w.alloc (.cells #[.slice A0 d.acts.length c0, .slice A1 d.subs.length c1, .slice A2 d.roles.length c2, .slice A3 d.objs.length c3, .slice A4 d.grps.length c4, .slice A5 d.mem.length c5, .slice A6 d.inh.length c6, .slice A7 d.par.length c7, .slice A8 d.wit.length c8, .slice A9 d.rules.length c9, .slice A10 d.exc.length c10] 39)).alloc (.cells #[.slice none 0 0, .slice none 0 0, .slice none 0 0, .slice none 0 0, .slice none 0 0, .slice none 0 0] 26)) w.heap.size #[.slice A0 d.acts.length c0, .slice A1 d.subs.length c1, .slice A2 d.roles.length c2, .slice A3 d.objs.length c3, .slice A4 d.grps.length c4, .slice A5 d.mem.length c5, .slice A6 d.inh.length c6, .slice A7 d.par.length c7, .slice A8 d.wit.length c8, .slice A9 d.rules.length c9, .slice A10 d.exc.length c10] 39 := HST.out.below (below_alloc (Below.refl _ _) _)
 have hW0v : Stays ((w.alloc (.cells #[.slice A0 d.acts.length c0, .slice A1 d.subs.length c1, .slice A2 d.roles.length c2, .slice A3 d.objs.length c3, .slice A4 d.grps.length c4, .slice A5 d.mem.length c5, .slice A6 d.inh.length c6, .slice A7 d.par.length c7, .slice A8 d.wit.length c8, .slice A9 d.rules.length c9, .slice A10 d.exc.length c10] 39)).alloc (.cells #[.slice none 0 0, .slice none 0 0, .slice none 0 0, .slice none 0 0, .slice none 0 0, .slice none 0 0] 26)) (w.heap.size + 1) #[.slice none 0 0, .slice none 0 0, .slice none 0 0, .slice none 0 0, .slice none 0 0, .slice none 0 0] 26 := by
  have h := heap_alloc_new (w.alloc (.cells #[.slice A0 d.acts.length c0, .slice A1 d.subs.length c1, .slice A2 d.roles.length c2, .slice A3 d.objs.length c3, .slice A4 d.grps.length c4, .slice A5 d.mem.length c5, .slice A6 d.inh.length c6, .slice A7 d.par.length c7, .slice A8 d.wit.length c8, .slice A9 d.rules.length c9, .slice A10 d.exc.length c10] 39)) (.cells #[.slice none 0 0, .slice none 0 0, .slice none 0 0, .slice none 0 0, .slice none 0 0, .slice none 0 0] 26)
  rw [show (w.alloc (.cells #[.slice A0 d.acts.length c0, .slice A1 d.subs.length c1, .slice A2 d.roles.length c2, .slice A3 d.objs.length c3, .slice A4 d.grps.length c4, .slice A5 d.mem.length c5, .slice A6 d.inh.length c6, .slice A7 d.par.length c7, .slice A8 d.wit.length c8, .slice A9 d.rules.length c9, .slice A10 d.exc.length c10] 39)).heap.size = w.heap.size + 1 from Array.size_push ..] at h
  exact h
 have hW0b : Below w.heap.size w ((w.alloc (.cells #[.slice A0 d.acts.length c0, .slice A1 d.subs.length c1, .slice A2 d.roles.length c2, .slice A3 d.objs.length c3, .slice A4 d.grps.length c4, .slice A5 d.mem.length c5, .slice A6 d.inh.length c6, .slice A7 d.par.length c7, .slice A8 d.wit.length c8, .slice A9 d.rules.length c9, .slice A10 d.exc.length c10] 39)).alloc (.cells #[.slice none 0 0, .slice none 0 0, .slice none 0 0, .slice none 0 0, .slice none 0 0, .slice none 0 0] 26)) := below_alloc (below_alloc (Below.refl _ _) _) _
 obtain ⟨W0, hW0⟩ : ∃ W0, W0 = ((w.alloc (.cells #[.slice A0 d.acts.length c0, .slice A1 d.subs.length c1, .slice A2 d.roles.length c2, .slice A3 d.objs.length c3, .slice A4 d.grps.length c4, .slice A5 d.mem.length c5, .slice A6 d.inh.length c6, .slice A7 d.par.length c7, .slice A8 d.wit.length c8, .slice A9 d.rules.length c9, .slice A10 d.exc.length c10] 39)).alloc (.cells #[.slice none 0 0, .slice none 0 0, .slice none 0 0, .slice none 0 0, .slice none 0 0, .slice none 0 0] 26)) := ⟨_, rfl⟩
 obtain ⟨gv, hgv⟩ : ∃ gv, gv = w.heap.size + 1 := ⟨_, rfl⟩
 rw [← hW0] at hW0s hW0v hW0b ⊢
 rw [← hgv] at hW0v ⊢
 have HGV := jA (show w.heap.size < gv by omega)
 have HB0 := jA hW0s
 have HV0 := jA hW0v
 have HW0 := jA hW0b
 clear hW0s hW0v hW0b hW0 hgv HST
 go_cut [3] (fun v3 wx => ∃ (g3 : Nat) (u0 u2 : Value), v3 = .pointer (some ⟨g3, 0, none⟩) ∧ Aside0 (gv < g3) ∧ Aside0 (Stays wx g3 (gV u0 (.slice none 0 0) u2 (.slice none 0 0) (.slice none 0 0) (.slice none 0 0)) 26) ∧ Aside0 (Kd.R Kd.string 9 wx w.heap.size (fun _ => True) u0 d.acts) ∧ Aside0 (Kd.R Kd.string 9 wx w.heap.size (fun _ => True) u2 d.objs) ∧ Aside0 (Ap u0 u2) ∧ Aside0 (Below W0.heap.size W0 wx))
 case first =>
  have HB1 := jA (below_drew (Below.refl W0.heap.size W0))
  refine start_ (n := 9) (S := fun w' => w'.cell? ⟨w.heap.size, 0, none⟩ = some (.slice A0 d.acts.length c0) ∧ w'.cell? ⟨w.heap.size, 3, none⟩ = some (.slice A3 d.objs.length c3)) (ds := [8]) (Jb 9 0) (by kernel_rfl) rfl (by kernel_rfl) ⟨HB0.out.cell 0, HB0.out.cell 3⟩ (fun hHeld => ?_)
  obtain ⟨W1, hW1⟩ : ∃ W1, W1 = W0.drew := ⟨_, rfl⟩
  rw [← hW1] at hHeld HB1 ⊢
  clear hW1
  refine Jp 0 36 (Jb 9 1) rfl rfl ?_
  refine Jk 1 37 (Jb 9 3) rfl rfl hHeld (.inl ⟨by rfl, by rintro w' ⟨s0, s1⟩; go_simp; with_reducible rfl⟩) ?_
  refine Jp 3 39 (Jb 9 11) rfl rfl ?_
  refine Jk 4 40 (Jb 9 27) rfl rfl hHeld (.inl ⟨by rfl, by rintro w' ⟨s0, s1⟩; go_simp; with_reducible rfl⟩) ?_
  refine two_ (i := 2) (j := 7) (Ni := some 38) (Nj := some 3) (Jb 9 31) (Jb 9 155) rfl rfl rfl rfl (by kernel_rfl) (by decide) (by decide) (fun K hK => ?_) (fun K hK => ?_)
  ·refine goes_ Try.func47 (by kernel_rfl) rfl #[.slice A0 d.acts.length c0] (by rfl) rfl rfl (by (try simp only [List.map_toArray, List.map_cons, List.map_nil]); first | done | rfl) ?_
   refine (clone_calls A0 c0 d.acts _ ((HP.out.below (below_then HW0.out HW0.out.size HB1.out)).h0) (by omega)).mono ?_
   rintro e wA ⟨vv, rfl, hR, hb⟩
   obtain ⟨Ax, cx, rfl⟩ := Kd.R_slice hR
   refine ⟨_, rfl, ?_⟩
   have HB2 := jA (below_then HB1.out HB1.out.size hb)
   have HA := jA (Kd.R_lower hR (Nat.le_trans HW0.out.size HB1.out.size))
   clear hR hb
   refine hK.out _ _ ⟨pw_cell_below HB2.out (HB0.out.cell 0), pw_cell_below HB2.out (HB0.out.cell 3)⟩ (fun hHeld => ?_)
   clear hK K
   refine norm_ (a' := ?_) ?_ ?_; rotate_left; (show Act.put _ (some 38) _ = _; simp only [Act.put, Jq, Jr, Js]; rfl)
   refine two_ (i := 5) (j := 7) (Ni := some 41) (Nj := some 3) (Jb 9 63) (Jb 9 159) rfl rfl rfl rfl (by kernel_rfl) (by decide) (by decide) (fun K hK => ?_) (fun K hK => ?_)
   ·refine goes_ Try.func47 (by kernel_rfl) rfl #[.slice A3 d.objs.length c3] (by rfl) rfl rfl (by (try simp only [List.map_toArray, List.map_cons, List.map_nil]); first | done | rfl) ?_
    refine (clone_calls A3 c3 d.objs _ ((HP.out.below (below_then HW0.out HW0.out.size HB2.out)).h3) (by omega)).mono ?_
    rintro e wC ⟨vv, rfl, hR, hb⟩
    obtain ⟨Ay, cy, rfl⟩ := Kd.R_slice hR
    refine ⟨_, rfl, ?_⟩
    have HB3 := jA (below_then HB2.out HB2.out.size hb)
    have HAP := jA (ap_new HA.out hR)
    have HA := jA (Kd.R_below HA.out hb)
    have HC := jA (Kd.R_lower hR (Nat.le_trans HW0.out.size HB2.out.size))
    clear hR hb
    refine hK.out _ _ ⟨pw_cell_below HB3.out (HB0.out.cell 0), pw_cell_below HB3.out (HB0.out.cell 3)⟩ (fun hHeld => ?_)
    clear hK K
    refine norm_ (a' := ?_) ?_ ?_; rotate_left; (show Act.put _ (some 41) _ = _; simp only [Act.put, Jq, Jr, Js]; rfl)
    refine Jp 6 42 (Jb 9 127) rfl rfl ?_
    refine one_ (i := 7) (N := some 3) (Jb 9 255) rfl rfl (by kernel_rfl) (by decide) (fun K hK => ?_)
    have hz := z26
    refine GDiffer.step_run (w' := World.alloc wC (.cells #[.slice none 0 0, .slice none 0 0, .slice none 0 0, .slice none 0 0, .slice none 0 0, .slice none 0 0] 26)) (v := .pointer (some ⟨World.heap wC |>.size, 0, none⟩)) rfl rfl (by go_simp) ?_
    clear hz
    have hs3 : Stays (World.alloc wC (.cells #[.slice none 0 0, .slice none 0 0, .slice none 0 0, .slice none 0 0, .slice none 0 0, .slice none 0 0] 26)) (World.heap wC).size #[.slice none 0 0, .slice none 0 0, .slice none 0 0, .slice none 0 0, .slice none 0 0, .slice none 0 0] 26 := heap_alloc_new wC _
    have hb := below_alloc (Below.refl _ wC) (.cells #[.slice none 0 0, .slice none 0 0, .slice none 0 0, .slice none 0 0, .slice none 0 0, .slice none 0 0] 26)
    have HB4 := jA (below_then HB3.out HB3.out.size hb)
    have hle : W0.heap.size ≤ (World.heap wC).size := HB3.out.size
    have HA := jA (Kd.R_below HA.out hb)
    have HC := jA (Kd.R_below HC.out hb)
    obtain ⟨W7, hW7⟩ : ∃ W7, W7 = World.alloc wC (.cells #[.slice none 0 0, .slice none 0 0, .slice none 0 0, .slice none 0 0, .slice none 0 0, .slice none 0 0] 26) := ⟨_, rfl⟩
    obtain ⟨g3, hg3⟩ : ∃ g3, g3 = (World.heap wC).size := ⟨_, rfl⟩
    rw [← hW7] at hs3 HB4 HA HC ⊢
    rw [← hg3] at hs3 hle ⊢
    have HS3 := jA hs3
    have HLE := jA hle
    have HG3 := jA (show gv < g3 by have := (Array.getElem?_eq_some_iff.1 HV0.out).1; omega)
    clear hs3 hb hle hW7 hg3
    refine hK.out _ _ ⟨pw_cell_below HB4.out (HB0.out.cell 0), pw_cell_below HB4.out (HB0.out.cell 3)⟩ (fun hHeld => ?_)
    clear hK K
    refine norm_ (a' := ?_) ?_ ?_; rotate_left; (show Act.put _ (some 3) _ = _; simp only [Act.put, Jq, Jr, Js]; rfl)
    refine last_ (i := 8) (N := none) (Jb 9 511) rfl rfl (by kernel_rfl) (by decide) (fun K hK => ?_)
    have hst := run_storeAt_mid (P := Try.prog) W7 g3 0 26 (gV (.slice Ax d.acts.length cx) (.slice none 0 0) (.slice Ay d.objs.length cy) (.slice none 0 0) (.slice none 0 0) (.slice none 0 0)) (Stays.there (cs := #[.slice none 0 0, .slice none 0 0, .slice none 0 0, .slice none 0 0, .slice none 0 0, .slice none 0 0]) HS3.out) i26 (by simp [gV, Value.oneCell'])
    refine GDiffer.step_skip (w' := World.setCells W7 g3 0 (gV (.slice Ax d.acts.length cx) (.slice none 0 0) (.slice Ay d.objs.length cy) (.slice none 0 0) (.slice none 0 0) (.slice none 0 0)).toList) rfl rfl (by first | (simp [execOp, Act.eval, hst]; done) | (show Sem.run Try.prog _ _ = _; simp only [execOp, Act.eval]; simp; rw [hst]; rfl)) ?_
    refine hK.out _ _ ?_
    clear hK K hst
    refine done_ (by kernel_rfl) ?_
    have hS3 := setCells_var (vs := (gV (.slice Ax d.acts.length cx) (.slice none 0 0) (.slice Ay d.objs.length cy) (.slice none 0 0) (.slice none 0 0) (.slice none 0 0))) HS3.out rfl
    have hbb := setCells_below HB4.out HLE.out (gV (.slice Ax d.acts.length cx) (.slice none 0 0) (.slice Ay d.objs.length cy) (.slice none 0 0) (.slice none 0 0) (.slice none 0 0)).toList
    have hRA := R_setCells HA.out HS3.out (by decide) (gV (.slice Ax d.acts.length cx) (.slice none 0 0) (.slice Ay d.objs.length cy) (.slice none 0 0) (.slice none 0 0) (.slice none 0 0)).toList
    have hRC := R_setCells HC.out HS3.out (by decide) (gV (.slice Ax d.acts.length cx) (.slice none 0 0) (.slice Ay d.objs.length cy) (.slice none 0 0) (.slice none 0 0) (.slice none 0 0)).toList
    have HF := jA (And.intro hS3 (And.intro hbb (And.intro hRA hRC)))
    clear hS3 hbb hRA hRC hHeld
    go_wp2
    go_meet
    exact ⟨g3, _, _, rfl, HG3, ⟨HF.out.1⟩, ⟨HF.out.2.2.1⟩, ⟨HF.out.2.2.2⟩, HAP, ⟨HF.out.2.1⟩⟩
   ·have hz := z26
    refine GDiffer.step_run (w' := World.alloc wA (.cells #[.slice none 0 0, .slice none 0 0, .slice none 0 0, .slice none 0 0, .slice none 0 0, .slice none 0 0] 26)) (v := .pointer (some ⟨World.heap wA |>.size, 0, none⟩)) rfl rfl (by go_simp) ?_
    clear hz
    have hs3 : Stays (World.alloc wA (.cells #[.slice none 0 0, .slice none 0 0, .slice none 0 0, .slice none 0 0, .slice none 0 0, .slice none 0 0] 26)) (World.heap wA).size #[.slice none 0 0, .slice none 0 0, .slice none 0 0, .slice none 0 0, .slice none 0 0, .slice none 0 0] 26 := heap_alloc_new wA _
    have hb := below_alloc (Below.refl _ wA) (.cells #[.slice none 0 0, .slice none 0 0, .slice none 0 0, .slice none 0 0, .slice none 0 0, .slice none 0 0] 26)
    have HB3 := jA (below_then HB2.out HB2.out.size hb)
    have hle : W0.heap.size ≤ (World.heap wA).size := HB2.out.size
    have HA := jA (Kd.R_below HA.out hb)
    obtain ⟨W7, hW7⟩ : ∃ W7, W7 = World.alloc wA (.cells #[.slice none 0 0, .slice none 0 0, .slice none 0 0, .slice none 0 0, .slice none 0 0, .slice none 0 0] 26) := ⟨_, rfl⟩
    obtain ⟨g3, hg3⟩ : ∃ g3, g3 = (World.heap wA).size := ⟨_, rfl⟩
    rw [← hW7] at hs3 HB3 HA ⊢
    rw [← hg3] at hs3 hle ⊢
    have HS3 := jA hs3
    have HLE := jA hle
    have HG3 := jA (show gv < g3 by have := (Array.getElem?_eq_some_iff.1 HV0.out).1; omega)
    clear hs3 hb hle hW7 hg3
    refine hK.out _ _ ⟨pw_cell_below HB3.out (HB0.out.cell 0), pw_cell_below HB3.out (HB0.out.cell 3)⟩ (fun hHeld => ?_)
    clear hK K
    refine norm_ (a' := ?_) ?_ ?_; rotate_left; (show Act.put _ (some 3) _ = _; simp only [Act.put, Jq, Jr, Js]; rfl)
    refine one_ (i := 5) (N := some 41) (Jb 9 191) rfl rfl (by kernel_rfl) (by decide) (fun K hK => ?_)
    refine goes_ Try.func47 (by kernel_rfl) rfl #[.slice A3 d.objs.length c3] (by rfl) rfl rfl (by (try simp only [List.map_toArray, List.map_cons, List.map_nil]); first | done | rfl) ?_
    refine (clone_calls A3 c3 d.objs _ ((HP.out.below (below_then HW0.out HW0.out.size HB3.out)).h3) (by omega)).mono ?_
    rintro e wC ⟨vv, rfl, hR, hb⟩
    obtain ⟨Ay, cy, rfl⟩ := Kd.R_slice hR
    refine ⟨_, rfl, ?_⟩
    have HB4 := jA (below_then HB3.out HB3.out.size hb)
    have HAP := jA (ap_new HA.out hR)
    have HA := jA (Kd.R_below HA.out hb)
    have HS3 := jA (HS3.out.below hb)
    have HC := jA (Kd.R_lower hR (Nat.le_trans HW0.out.size HB3.out.size))
    clear hR hb
    refine hK.out _ _ ⟨pw_cell_below HB4.out (HB0.out.cell 0), pw_cell_below HB4.out (HB0.out.cell 3)⟩ (fun hHeld => ?_)
    clear hK K
    refine norm_ (a' := ?_) ?_ ?_; rotate_left; (show Act.put _ (some 41) _ = _; simp only [Act.put, Jq, Jr, Js]; rfl)
    refine Jp 6 42 (Jb 9 255) rfl rfl ?_
    refine last_ (i := 8) (N := none) (Jb 9 511) rfl rfl (by kernel_rfl) (by decide) (fun K hK => ?_)
    have hst := run_storeAt_mid (P := Try.prog) wC g3 0 26 (gV (.slice Ax d.acts.length cx) (.slice none 0 0) (.slice Ay d.objs.length cy) (.slice none 0 0) (.slice none 0 0) (.slice none 0 0)) (Stays.there (cs := #[.slice none 0 0, .slice none 0 0, .slice none 0 0, .slice none 0 0, .slice none 0 0, .slice none 0 0]) HS3.out) i26 (by simp [gV, Value.oneCell'])
    refine GDiffer.step_skip (w' := World.setCells wC g3 0 (gV (.slice Ax d.acts.length cx) (.slice none 0 0) (.slice Ay d.objs.length cy) (.slice none 0 0) (.slice none 0 0) (.slice none 0 0)).toList) rfl rfl (by first | (simp [execOp, Act.eval, hst]; done) | (show Sem.run Try.prog _ _ = _; simp only [execOp, Act.eval]; simp; rw [hst]; rfl)) ?_
    refine hK.out _ _ ?_
    clear hK K hst
    refine done_ (by kernel_rfl) ?_
    have hS3 := setCells_var (vs := (gV (.slice Ax d.acts.length cx) (.slice none 0 0) (.slice Ay d.objs.length cy) (.slice none 0 0) (.slice none 0 0) (.slice none 0 0))) HS3.out rfl
    have hbb := setCells_below HB4.out HLE.out (gV (.slice Ax d.acts.length cx) (.slice none 0 0) (.slice Ay d.objs.length cy) (.slice none 0 0) (.slice none 0 0) (.slice none 0 0)).toList
    have hRA := R_setCells HA.out HS3.out (by decide) (gV (.slice Ax d.acts.length cx) (.slice none 0 0) (.slice Ay d.objs.length cy) (.slice none 0 0) (.slice none 0 0) (.slice none 0 0)).toList
    have hRC := R_setCells HC.out HS3.out (by decide) (gV (.slice Ax d.acts.length cx) (.slice none 0 0) (.slice Ay d.objs.length cy) (.slice none 0 0) (.slice none 0 0) (.slice none 0 0)).toList
    have HF := jA (And.intro hS3 (And.intro hbb (And.intro hRA hRC)))
    clear hS3 hbb hRA hRC hHeld
    go_wp2
    go_meet
    exact ⟨g3, _, _, rfl, HG3, ⟨HF.out.1⟩, ⟨HF.out.2.2.1⟩, ⟨HF.out.2.2.2⟩, HAP, ⟨HF.out.2.1⟩⟩
  ·have hz := z26
   refine GDiffer.step_run (w' := World.alloc W1 (.cells #[.slice none 0 0, .slice none 0 0, .slice none 0 0, .slice none 0 0, .slice none 0 0, .slice none 0 0] 26)) (v := .pointer (some ⟨World.heap W1 |>.size, 0, none⟩)) rfl rfl (by go_simp) ?_
   clear hz
   have hs3 : Stays (World.alloc W1 (.cells #[.slice none 0 0, .slice none 0 0, .slice none 0 0, .slice none 0 0, .slice none 0 0, .slice none 0 0] 26)) (World.heap W1).size #[.slice none 0 0, .slice none 0 0, .slice none 0 0, .slice none 0 0, .slice none 0 0, .slice none 0 0] 26 := heap_alloc_new W1 _
   have hb := below_alloc (Below.refl _ W1) (.cells #[.slice none 0 0, .slice none 0 0, .slice none 0 0, .slice none 0 0, .slice none 0 0, .slice none 0 0] 26)
   have HB2 := jA (below_then HB1.out HB1.out.size hb)
   have hle : W0.heap.size ≤ (World.heap W1).size := HB1.out.size
   obtain ⟨W7, hW7⟩ : ∃ W7, W7 = World.alloc W1 (.cells #[.slice none 0 0, .slice none 0 0, .slice none 0 0, .slice none 0 0, .slice none 0 0, .slice none 0 0] 26) := ⟨_, rfl⟩
   obtain ⟨g3, hg3⟩ : ∃ g3, g3 = (World.heap W1).size := ⟨_, rfl⟩
   rw [← hW7] at hs3 HB2 ⊢
   rw [← hg3] at hs3 hle ⊢
   have HS3 := jA hs3
   have HLE := jA hle
   have HG3 := jA (show gv < g3 by have := (Array.getElem?_eq_some_iff.1 HV0.out).1; omega)
   clear hs3 hb hle hW7 hg3
   refine hK.out _ _ ⟨pw_cell_below HB2.out (HB0.out.cell 0), pw_cell_below HB2.out (HB0.out.cell 3)⟩ (fun hHeld => ?_)
   clear hK K
   refine norm_ (a' := ?_) ?_ ?_; rotate_left; (show Act.put _ (some 3) _ = _; simp only [Act.put, Jq, Jr, Js]; rfl)
   refine one_ (i := 2) (N := some 38) (Jb 9 159) rfl rfl (by kernel_rfl) (by decide) (fun K hK => ?_)
   refine goes_ Try.func47 (by kernel_rfl) rfl #[.slice A0 d.acts.length c0] (by rfl) rfl rfl (by (try simp only [List.map_toArray, List.map_cons, List.map_nil]); first | done | rfl) ?_
   refine (clone_calls A0 c0 d.acts _ ((HP.out.below (below_then HW0.out HW0.out.size HB2.out)).h0) (by omega)).mono ?_
   rintro e wA ⟨vv, rfl, hR, hb⟩
   obtain ⟨Ax, cx, rfl⟩ := Kd.R_slice hR
   refine ⟨_, rfl, ?_⟩
   have HB3 := jA (below_then HB2.out HB2.out.size hb)
   have HS3 := jA (HS3.out.below hb)
   have HA := jA (Kd.R_lower hR (Nat.le_trans HW0.out.size HB2.out.size))
   clear hR hb
   refine hK.out _ _ ⟨pw_cell_below HB3.out (HB0.out.cell 0), pw_cell_below HB3.out (HB0.out.cell 3)⟩ (fun hHeld => ?_)
   clear hK K
   refine norm_ (a' := ?_) ?_ ?_; rotate_left; (show Act.put _ (some 38) _ = _; simp only [Act.put, Jq, Jr, Js]; rfl)
   refine one_ (i := 5) (N := some 41) (Jb 9 191) rfl rfl (by kernel_rfl) (by decide) (fun K hK => ?_)
   refine goes_ Try.func47 (by kernel_rfl) rfl #[.slice A3 d.objs.length c3] (by rfl) rfl rfl (by (try simp only [List.map_toArray, List.map_cons, List.map_nil]); first | done | rfl) ?_
   refine (clone_calls A3 c3 d.objs _ ((HP.out.below (below_then HW0.out HW0.out.size HB3.out)).h3) (by omega)).mono ?_
   rintro e wC ⟨vv, rfl, hR, hb⟩
   obtain ⟨Ay, cy, rfl⟩ := Kd.R_slice hR
   refine ⟨_, rfl, ?_⟩
   have HB4 := jA (below_then HB3.out HB3.out.size hb)
   have HS3 := jA (HS3.out.below hb)
   have HAP := jA (ap_new HA.out hR)
   have HA := jA (Kd.R_below HA.out hb)
   have HC := jA (Kd.R_lower hR (Nat.le_trans HW0.out.size HB3.out.size))
   clear hR hb
   refine hK.out _ _ ⟨pw_cell_below HB4.out (HB0.out.cell 0), pw_cell_below HB4.out (HB0.out.cell 3)⟩ (fun hHeld => ?_)
   clear hK K
   refine norm_ (a' := ?_) ?_ ?_; rotate_left; (show Act.put _ (some 41) _ = _; simp only [Act.put, Jq, Jr, Js]; rfl)
   refine Jp 6 42 (Jb 9 255) rfl rfl ?_
   refine last_ (i := 8) (N := none) (Jb 9 511) rfl rfl (by kernel_rfl) (by decide) (fun K hK => ?_)
   have hst := run_storeAt_mid (P := Try.prog) wC g3 0 26 (gV (.slice Ax d.acts.length cx) (.slice none 0 0) (.slice Ay d.objs.length cy) (.slice none 0 0) (.slice none 0 0) (.slice none 0 0)) (Stays.there (cs := #[.slice none 0 0, .slice none 0 0, .slice none 0 0, .slice none 0 0, .slice none 0 0, .slice none 0 0]) HS3.out) i26 (by simp [gV, Value.oneCell'])
   refine GDiffer.step_skip (w' := World.setCells wC g3 0 (gV (.slice Ax d.acts.length cx) (.slice none 0 0) (.slice Ay d.objs.length cy) (.slice none 0 0) (.slice none 0 0) (.slice none 0 0)).toList) rfl rfl (by first | (simp [execOp, Act.eval, hst]; done) | (show Sem.run Try.prog _ _ = _; simp only [execOp, Act.eval]; simp; rw [hst]; rfl)) ?_
   refine hK.out _ _ ?_
   clear hK K hst
   refine done_ (by kernel_rfl) ?_
   have hS3 := setCells_var (vs := (gV (.slice Ax d.acts.length cx) (.slice none 0 0) (.slice Ay d.objs.length cy) (.slice none 0 0) (.slice none 0 0) (.slice none 0 0))) HS3.out rfl
   have hbb := setCells_below HB4.out HLE.out (gV (.slice Ax d.acts.length cx) (.slice none 0 0) (.slice Ay d.objs.length cy) (.slice none 0 0) (.slice none 0 0) (.slice none 0 0)).toList
   have hRA := R_setCells HA.out HS3.out (by decide) (gV (.slice Ax d.acts.length cx) (.slice none 0 0) (.slice Ay d.objs.length cy) (.slice none 0 0) (.slice none 0 0) (.slice none 0 0)).toList
   have hRC := R_setCells HC.out HS3.out (by decide) (gV (.slice Ax d.acts.length cx) (.slice none 0 0) (.slice Ay d.objs.length cy) (.slice none 0 0) (.slice none 0 0) (.slice none 0 0)).toList
   have HF := jA (And.intro hS3 (And.intro hbb (And.intro hRA hRC)))
   clear hS3 hbb hRA hRC hHeld
   go_wp2
   go_meet
   exact ⟨g3, _, _, rfl, HG3, ⟨HF.out.1⟩, ⟨HF.out.2.2.1⟩, ⟨HF.out.2.2.2⟩, HAP, ⟨HF.out.2.1⟩⟩
 case rest =>
  obtain ⟨g3, u0, u2, rfl, HG3, HS3, HU0, HU2, HAP, HWX⟩ := hcut
  obtain ⟨wx, hwx⟩ : ∃ wx : World, wx = wc := ⟨_, rfl⟩
  subst hwx
  have HBX := jA (below_then HW0.out HW0.out.size HWX.out)
  have HB1 := jA (HB0.out.below HWX.out)
  have HV1 := jA (HV0.out.below HWX.out)
  go_upto_region 5 with (first | ((with_reducible refine gate_dst (N := 43) rfl ?_); refine wpList_load_blk rfl 39 (.tmp 1) rfl w.heap.size ?hx #[.slice A0 d.acts.length c0, .slice A1 d.subs.length c1, .slice A2 d.roles.length c2, .slice A3 d.objs.length c3, .slice A4 d.grps.length c4, .slice A5 d.mem.length c5, .slice A6 d.inh.length c6, .slice A7 d.par.length c7, .slice A8 d.wit.length c8, .slice A9 d.rules.length c9, .slice A10 d.exc.length c10] 39 HB1.out _ Try.underlying39 rfl i39 ?_; (case hx => rfl)) | (go_at_call 48; (refine (masks_calls (Pol.mk d A0 c0 A1 c1 A2 c2 A3 c3 A4 c4 A5 c5 A6 c6 A7 c7 A8 c8 A9 c9 A10 c10) _ (HP.out.below HBX.out) HD.out hs ho ha).mono ?_); rintro e w2 ⟨ga, f, nf, L, rfl, hM, hA, hsp, hge, hb⟩; have HB2 := jA (HB1.out.below hb); have HV2 := jA (HV1.out.below hb); have HS2 := jA (HS3.out.below hb); have HU0' := jA (Kd.R_below HU0.out hb); have HU2' := jA (Kd.R_below HU2.out hb); have HM := jA hM; have HAL := jA hA; have HSP := jA hsp; have HW2 := jA (below_then HBX.out HBX.out.size hb); clear hM hA hsp hge hb))
  clear HU0 HU2 HS3 HV1 HB1 HBX HWX
  obtain ⟨n, hn⟩ : ∃ n, n = d.subs.length := ⟨_, rfl⟩
  have e1 := HB2.out.cell 1
  have e3 := HB2.out.cell 3
  simp only [Jt, Ju, Jv] at e1 e3
  have hmk := make_lines d.subs.length hs
  have hmk' := make_lines d.objs.length ho
  clear hn n
  go_cut [5, 6] (fun v5 v6 wy => ∃ gr gc, v5 = .slice (some ⟨gr, 0, none⟩) d.subs.length d.subs.length ∧ v6 = .slice (some ⟨gc, 0, none⟩) d.objs.length d.objs.length ∧ Aside0 (gr ≠ gc) ∧ Aside0 (w2.heap.size ≤ gr) ∧ Aside0 (w2.heap.size ≤ gc) ∧ Aside0 (Blk wy gr d.subs.length (fun _ _ => 0)) ∧ Aside0 (Blk wy gc d.objs.length (fun _ _ => 0)) ∧ Aside0 (Below w2.heap.size w2 wy))
  case first =>
   have hltw : w.heap.size < w2.heap.size := (Array.getElem?_eq_some_iff.1 HB2.out).1
   have x1 := fun (o : Obj) => (HB2.out.below (below_alloc (Below.refl _ w2) o)).cell 1
   have x3 := fun (o : Obj) => (HB2.out.below (below_alloc (Below.refl _ w2) o)).cell 3
   simp only [Jt, Ju, Jv] at x1 x3
   go_region
   all_goals (go_wp2_with fail; go_meet)
   all_goals first
    | exact ⟨_, _, rfl, rfl, ⟨by omega⟩, ⟨Nat.le_refl _⟩, ⟨Nat.le_succ _⟩, ⟨(made_two w2 d.subs.length d.objs.length).1⟩, ⟨(made_two w2 d.subs.length d.objs.length).2.1⟩, ⟨(made_two w2 d.subs.length d.objs.length).2.2⟩⟩
    | exact ⟨_, _, rfl, rfl, ⟨by omega⟩, ⟨Nat.le_succ _⟩, ⟨Nat.le_refl _⟩, ⟨(made_two w2 d.objs.length d.subs.length).2.1⟩, ⟨(made_two w2 d.objs.length d.subs.length).1⟩, ⟨(made_two w2 d.objs.length d.subs.length).2.2⟩⟩
  case rest =>
   obtain ⟨gr, gc, rfl, rfl, HNE, HGR, HGC, HRR, HCC, HBY⟩ := hcut
   obtain ⟨WB, hWB⟩ : ∃ WB : World, WB = wc := ⟨_, rfl⟩
   subst hWB
   clear hmk hmk' e1 e3
   have Zz := (Array.getElem?_eq_some_iff.1 HS2.out).1
   have HN1 := jA (show gr ≠ g3 by have := HGR.out; omega)
   have HN2 := jA (show gc ≠ g3 by have := HGC.out; omega)
   have Zm := jA (show w.heap.size < w2.heap.size from (Array.getElem?_eq_some_iff.1 HB2.out).1)
   have Zn := jA (show ¬ S3 g3 gr gc w.heap.size by have h1 := HG3.out; have h2 := HGV.out; have h3 := HGR.out; have h4 := HGC.out; have h5 := Zm.out; rintro (e | e | e) <;> omega)
   have HLTV := jA (show gv < w2.heap.size from (Array.getElem?_eq_some_iff.1 HV2.out).1)
   have ZA := jA (show ¬ S3 g3 gr gc gv by have h1 := HG3.out; have h3 := HGR.out; have h4 := HGC.out; have h5 := HLTV.out; rintro (e | e | e) <;> omega)
   have HNGA := jA (show ¬ S3 g3 gr gc ga by have h1 := HM.out.lt; have h3 := HGR.out; have h4 := HGC.out; have h5 := map_ne HM.out HS2.out; rintro (e | e | e) <;> omega)
   have HB3 := jA (HB2.out.below HBY.out)
   have HV3 := jA (HV2.out.below HBY.out)
   have HM3 := jA (HM.out.below HBY.out)
   have HW3 := jA (below_then HW2.out HW2.out.size HBY.out)
   have HU0b := jA (Kd.R_mono (Kd.R_bound (Kd.R_below HU0'.out HBY.out)) (ok' := fun b => ¬ S3 g3 gr gc b) (fun k hk e => by
    obtain ⟨-, -, -, q, hq, cells, hc⟩ := hk
    have hq9 : q = 9 := by simpa [Kd.string, Kd.scalar] using hq
    subst hq9
    rcases e with e | e | e
    ·subst e; have h := HS2.out.below HBY.out; rw [show WB.heap[k]? = _ from h] at hc; cases hc
    ·subst e; obtain ⟨c, h, _⟩ := HRR.out; rw [h] at hc; cases hc
    ·subst e; obtain ⟨c, h, _⟩ := HCC.out; rw [h] at hc; cases hc))
   have HU2b := jA (Kd.R_mono (Kd.R_bound (Kd.R_below HU2'.out HBY.out)) (ok' := fun b => ¬ S3 g3 gr gc b) (fun k hk e => by
    obtain ⟨-, -, -, q, hq, cells, hc⟩ := hk
    have hq9 : q = 9 := by simpa [Kd.string, Kd.scalar] using hq
    subst hq9
    rcases e with e | e | e
    ·subst e; have h := HS2.out.below HBY.out; rw [show WB.heap[k]? = _ from h] at hc; cases hc
    ·subst e; obtain ⟨c, h, _⟩ := HRR.out; rw [h] at hc; cases hc
    ·subst e; obtain ⟨c, h, _⟩ := HCC.out; rw [h] at hc; cases hc))
   have HLP := jA (show Lp d g3 gr gc WB WB u0 (.slice none 0 0) u2 [] 0 0 from ⟨Same.refl _ _, HS2.out.below HBY.out, Kd.R_nil _ _ _ _ _, HRR.out.congr fun a b _ _ => (prt_zero _ a b).symm, HCC.out.congr fun b a _ _ => (prt_zero _ a b).symm⟩)
   clear HU0' HU2' HM HB2 HV2 HS2 HW2 HRR HCC Zz
   have e1 := HB3.out.cell 1
   simp only [Jt, Ju, Jv] at e1
   go_wp2
   clear e1
   go_loopw [56] (fun u56 wr => ∃ (i : Nat) (v1 : Value), i ≤ d.subs.length ∧ u56 = .int .i64 i ∧ Aside0 (Lp d g3 gr gc WB wr u0 v1 u2 ((d.subs.map (·.f0)).take i) i 0)) (fun u56 _ => d.subs.length - (intOf u56).toNat)
   case atStart => exact ⟨0, _, Nat.zero_le _, rfl, HLP⟩
   case round =>
    obtain ⟨i, v1, hi, rfl, HL⟩ := hrel
    have hS3w : ∀ k, S3 g3 gr gc k → w.heap.size ≤ k := fun k hk => by
     have h1 := HG3.out; have h2 := HGV.out; have h3 := HGR.out; have h4 := HGC.out; have h5 := Zm.out
     rcases hk with e | e | e <;> omega
    have HSW := jA hS3w
    clear hS3w
    have hpin := HP.out.below (HL.out.same.below HW3.out HSW.out)
    by_cases hlt : i < d.subs.length
    ·obtain ⟨ad, ea, hx0, hx1⟩ := at_T54 hpin.h1 (i : Int) (by omega) (by simp only []; omega)
     have hget : rd_T54 d.subs (i : Int) = d.subs[i] := by simp [rd_T54, hlt]
     simp only [hget, Int.toNat_natCast] at hx0 hx1
     have ea : A1 = some ad := ea
     subst ea
     have htk : (d.subs.map (·.f0)).take (i + 1) = (d.subs.map (·.f0)).take i ++ [d.subs[i].f0] := by
      have h := List.take_succ_eq_append_getElem (l := d.subs.map (·.f0)) (i := i) (by simpa using hlt)
      simpa using h
     have hnm : (d.subs.map (·.f0)).getD i ⟨#[]⟩ = d.subs[i].f0 := by simp [hlt]
     have hin : d.subs[i] ∈ d.subs := List.getElem_mem hlt
     have hlen : ((d.subs.map (·.f0)).take i).length = i := by rw [List.length_take, List.length_map]; omega
     obtain ⟨x, hxx⟩ : ∃ x, x = d.subs[i] := ⟨_, rfl⟩
     rw [← hxx] at hx0 hx1 htk hin hnm
     have HTK := jA htk
     have HIN := jA hin
     have HNM := jA hnm
     have HLIM := jA (show (((d.subs.map (·.f0)).take i).length + 1) * 16 ≤ 140737488355328 by omega)
     have c0' : (i : Int) < d.subs.length := by omega
     have hcw : ∀ (j : Nat) (v : Value), ([.string x.f0, .float .f64 x.f1] : List Value)[j]? = some v → wr.cell? ((ad.add (i * 2)).add j) = some v := by
      intro j v hj
      have hj2 : j < 2 := (List.getElem?_eq_some_iff.1 hj).1
      have : j = 0 ∨ j = 1 := by omega
      rcases this with rfl | rfl
      ·obtain rfl : Value.string x.f0 = v := by simpa using hj
       rw [Addr.add_zero']; exact hx0
      ·obtain rfl : Value.float .f64 x.f1 = v := by simpa using hj
       rw [add_add, add_field _ _ 1 (by omega)]; exact hx1
     have HCW := jA hcw
     obtain ⟨ns, hns⟩ : ∃ ns, ns = (d.subs.map (·.f0)).take i := ⟨_, rfl⟩
     rw [← hns] at HTK HL HLIM
     have hz := MPol.z54
     clear hx0 hx1 hget htk hin hxx hcw hpin hnm hlen hns
     go_upto_region 9 with (first | ((with_reducible refine gate_dst (N := 60) rfl ?_); refine wpList_load_at rfl 54 (.tmp 59) rfl (ad.add (i * 2)) ?hx [.string x.f0, .float .f64 x.f1] HCW.out _ Try.underlying54 rfl i54 ?_; (case hx => rfl)) | ((with_reducible refine gate_store (t := 54) (p := 8) (v := .tmp 60) rfl ?_); refine wpList_store_var rfl 54 (.tmp 8) (.tmp 60) rfl wr.heap.size #[.string x.f0, .float .f64 x.f1] ?hx ?hy (cs := #[.string ⟨#[]⟩, .float .f64 0]) (t := 54) (heap_alloc_new wr _) rfl i54 (by simp [Value.oneCell']) ?_; (case hx => rfl); (case hy => rfl)))
     (try simp only [Act.put])
     clear hz
     have hb2 : Below wr.heap.size wr ((wr.alloc (.cells #[.string ⟨#[]⟩, .float .f64 0] 54)).setCells wr.heap.size 0 [.string x.f0, .float .f64 x.f1]) := setCells_below (below_alloc (Below.refl _ _) _) (Nat.le_refl _) _
     have hS2 : Stays ((wr.alloc (.cells #[.string ⟨#[]⟩, .float .f64 0] 54)).setCells wr.heap.size 0 [.string x.f0, .float .f64 x.f1]) wr.heap.size #[.string x.f0, .float .f64 x.f1] 54 := setCells_var (vs := #[.string x.f0, .float .f64 x.f1]) (heap_alloc_new wr _) rfl
     have hL2 := HL.out.move hb2
     obtain ⟨W2, hW2⟩ : ∃ W2, W2 = ((wr.alloc (.cells #[.string ⟨#[]⟩, .float .f64 0] 54)).setCells wr.heap.size 0 [.string x.f0, .float .f64 x.f1]) := ⟨_, rfl⟩
     obtain ⟨g8, hg8⟩ : ∃ g8, g8 = wr.heap.size := ⟨_, rfl⟩
     have hg8s : WB.heap.size ≤ g8 := by rw [hg8]; exact HL.out.same.size
     rw [← hW2] at hS2 hL2 ⊢
     rw [← hg8] at hS2 ⊢
     have HS8 := jA hS2
     have HL2 := jA hL2
     have HG8 := jA hg8s
     have x8 := hS2.cell 0
     simp only [List.getElem?_toArray, List.getElem?_cons_zero] at x8
     have x3 := hL2.g.cell 1
     simp only [gV, Jt, Ju, Jv] at x3
     clear hb2 hS2 hL2 hW2 hg8 hg8s HL
     go_upto_region 10 with (first | ((with_reducible refine gate_builtin (b := .append) (xs := #[.tmp 62, .tmp 65]) rfl ?_); at_builtin; refine Kd.R_append Kd.string (w0 := W2) WB.heap.size rfl (.tmp 62) (.tmp 65) 22 9 (.string ⟨#[]⟩) 16 rfl Try.underlying22 info9 rfl (by decide) (by decide) v1 ns x.f0 [.string x.f0] (fun _ => True) (fun _ => False) rfl rfl rfl (fun _ hk => hk.elim) (fun _ _ => trivial) HL2.out.r1 (Below.refl _ _) HL2.out.same.size HLIM.out ?_; intro v9 w9 hR9 hB9 hg9 Ze; have HL9 := jA (HL2.out.app hR9 hg9 HN1.out HN2.out); have HS9 := jA (show Stays w9 g8 #[.string x.f0, .float .f64 x.f1] 54 from (hg9.block _ (Array.getElem?_eq_some_iff.1 HS8.out).1 (Kd.R_ne HL2.out.r1 HS8.out (by decide))).trans HS8.out); have hG9 : Stays w9 g3 (gV u0 v1 u2 (.slice none 0 0) (.slice none 0 0) (.slice none 0 0)) 26 := (hg9.block _ (Array.getElem?_eq_some_iff.1 HL2.out.g).1 (Kd.R_ne HL2.out.r1 HL2.out.g (by decide))).trans HL2.out.g; have x9 := hG9.cell 1; simp only [gV, Jt, Ju, Jv] at x9; have f9 : w9.frozen? ⟨g3, 1, none⟩ = false := frozen_of_row _ _ _ _ _ hG9; obtain ⟨A9x, c9x, e9⟩ := Kd.R_slice hR9; obtain ⟨nn, hnn⟩ : ∃ nn, nn = (ns ++ [x.f0]).length := ⟨_, rfl⟩; rw [← hnn] at e9; subst e9; clear hR9 hB9 hg9 Ze hG9 hnn))
     clear x8 x3 x9 f9
     have HN8 := jA (show g8 ≠ g3 by have h1 := HG8.out; have h2 := (Array.getElem?_eq_some_iff.1 HLP.out.g).1; omega)
     have Zc := stays_far HS9.out (a := ⟨g3, 1, none⟩) (by exact HN8.out) (.slice A9x nn c9x)
     have Zb := HL9.out
     rw [← HTK.out] at Zb
     obtain ⟨v10, Zo⟩ : ∃ v10, v10 = Value.slice A9x nn c9x := ⟨_, rfl⟩
     rw [← Zo] at Zb Zc ⊢
     obtain ⟨W10, Zp⟩ : ∃ W10, W10 = w9.setCell ⟨g3, 1, none⟩ v10 := ⟨_, rfl⟩
     rw [← Zp] at Zb Zc ⊢
     have Zq := jA Zb
     have ZB := jA Zc
     clear Zb Zc Zo Zp HL9 HS9 HS8 HL2 HLIM HTK
     have e3 := (Zq.out.same.stays HB3.out Zn.out).cell 3
     simp only [Jt, Ju, Jv] at e3
     go_wp2
     clear e3
     go_loopw [71] (fun u71 wr => ∃ j : Nat, j ≤ d.objs.length ∧ u71 = .int .i64 j ∧ Aside0 (Lp d g3 gr gc WB wr u0 v10 u2 ((d.subs.map (·.f0)).take (i + 1)) i j) ∧ Aside0 (Stays wr g8 #[.string x.f0, .float .f64 x.f1] 54)) (fun u71 _ => d.objs.length - (intOf u71).toNat)
     case atStart => exact ⟨0, Nat.zero_le _, rfl, Zq, ZB⟩
     case round =>
      obtain ⟨j, hj, rfl, HLj, HSj⟩ := hrel
      have hpin := HP.out.below (HLj.out.same.below HW3.out HSW.out)
      by_cases hltj : j < d.objs.length
      ·obtain ⟨ado, eo, hxo⟩ := Kd.at_string hpin.h3 (j : Int) (by omega) (by simp only []; omega)
       have eo : A3 = some ado := eo
       subst eo
       have hget : rdOf ByteArray.empty d.objs (j : Int) = d.objs[j] := by simp [rdOf, hltj]
       simp only [hget, Int.toNat_natCast] at hxo
       have hom : d.objs.getD j ⟨#[]⟩ = d.objs[j] := by simp [hltj]
       have hoin : d.objs[j] ∈ d.objs := List.getElem_mem hltj
       obtain ⟨o, hoo⟩ : ∃ o, o = d.objs[j] := ⟨_, rfl⟩
       rw [← hoo] at hxo hom hoin
       have hval := alls_mask HAL.out HSP.out ha ⟨x, HIN.out, rfl⟩ o
       have hq : fill d.objs.length (matD d) i j = ((maskD d x.f0 o : Nat) : Int) := by
        unfold fill matD
        rw [if_pos hltj, HNM.out, hom]
       have hlk := pair_look (HLj.out.same.map HM3.out HNGA.out) (p := (x.f0, o)) ⟨HD.out.subs x HIN.out, HD.out.objs o hoin⟩
       rw [hval] at hlk
       simp only [] at hlk
       obtain ⟨q, hqe⟩ : ∃ q : Int, q = ((maskD d x.f0 o : Nat) : Int) := ⟨_, rfl⟩
       rw [← hqe] at hlk hq
       have HQ := jA hq
       have x8 := HSj.out.cell 0
       simp only [List.getElem?_toArray, List.getElem?_cons_zero] at x8
       have c0'' : (j : Int) < d.objs.length := by omega
       clear hpin hget hom hoin hoo hval hqe hq
       go_upto_region 14 with fail
       clear hlk x8 hxo
       have n1 : j < 64 := by omega
       have n2 : i < 64 := by omega
       have hc1 := HLj.out.rows.cell (i := i) (j := j) hlt n1
       have hc2 := HLj.out.cols.cell (i := j) (j := i) hltj n2
       have hf1 := HLj.out.rows.frozen (i * 64 + j)
       have hf2 := HLj.out.cols.frozen (j * 64 + i)
       have hne := HNE.out
       go_region
       go_wp2
       go_roundw
       case rel => exact ⟨j + 1, by omega, by go_num, ⟨HLj.out.put HNE.out HN1.out HN2.out n2 n1 q HQ.out⟩, ⟨stays_far (stays_far HSj.out (by show g8 ≠ gr; have h1 := HG8.out; have h2 := HLP.out.rows.lt; omega) _) (by show g8 ≠ gc; have h1 := HG8.out; have h2 := HLP.out.cols.lt; omega) _⟩⟩
       case measure => simp [intOf]; omega
      ·have hjj : j = d.objs.length := by omega
       subst hjj
       clear hpin
       go_wp2
       go_roundw
       case rel => exact ⟨i + 1, v10, by omega, by go_num, ⟨HLj.out.nextRow⟩⟩
       case measure => simp [intOf]; omega
    ·have hii : i = d.subs.length := by omega
     subst hii
     have hl := HL.out
     rw [List.take_of_length_le (by simp)] at hl
     have HLF := jA hl
     clear hl HL hpin
     obtain ⟨w5, hw5⟩ : ∃ w5, w5 = wr := ⟨_, rfl⟩
     subst hw5
     have hRows : Blk w5 gr d.subs.length (fill d.objs.length (matD d)) := HLF.out.rows.congr fun a b h _ => prt_all _ _ a b h
     have hCols : Blk w5 gc d.objs.length (fill d.subs.length (fun j i => matD d i j)) := HLF.out.cols.congr fun b a h _ => prt_cols _ _ _ b a h
     have HRW := jA hRows
     have HCL := jA hCols
     have HW5 := jA (HLF.out.same.below HW3.out HSW.out)
     have HW3' := jA HW3.out.size
     have HV5 := jA (HLF.out.same.stays HV3.out ZA.out)
     have HG5 := jA HLF.out.g
     have HU0c := jA (HLF.out.same.toR HU0b.out (fun _ h => h))
     have HU2c := jA (HLF.out.same.toR HU2b.out (fun _ h => h))
     have HU1c := jA HLF.out.r1
     have ZC := jA (ap_new HU0b.out HU1c.out)
     have ZD := jA (ap_new HU2b.out HU1c.out)
     have HRC := jA (Blk.C hRows (by omega))
     have HRK := jA (linesOf_ok (n := d.subs.length) (F := fill d.objs.length (matD d)) (fun a b _ _ => fill_u16 (matD_u16 d ha) a b))
     clear hRows hCols HLF HLP HB3 HV3 HU0b HU2b HW3 HBY HSW HM3 HAL HSP HGC HNGA Zn
     go_upto_region 19 with (first | (go_at_call 49; ((with_reducible refine (classes_to (some ⟨gr, 0, none⟩) d.subs.length (linesOf d.subs.length (fill d.objs.length (matD d))) _ d.subs.length (linesOf_length _ _) HRC.out HRK.out hs).mono ?_)); rintro e w6 ⟨v4, v5, rfl, hr4, hr5, hb⟩; obtain ⟨A4', c4', e4⟩ := Kd.R_slice hr4; obtain ⟨A5', c5', e5⟩ := Kd.R_slice hr5; obtain ⟨n4, hn4⟩ : ∃ n4, n4 = (numsOf (linesOf d.subs.length (fill d.objs.length (matD d)))).length := ⟨_, rfl⟩; obtain ⟨n5, hn5⟩ : ∃ n5, n5 = (firstsOf (linesOf d.subs.length (fill d.objs.length (matD d)))).length := ⟨_, rfl⟩; rw [← hn4] at e4; rw [← hn5] at e5; subst e4; subst e5; have hG6 := HG5.out.below hb; have x9 := hG6.cell 3; simp only [gV, Jt, Ju, Jv] at x9; have f9 : w6.frozen? ⟨g3, 3, none⟩ = false := frozen_of_row _ _ _ _ _ hG6; have HG6 := jA hG6; have HR4 := jA hr4; have HR5 := jA hr5; have HB6 := jA hb; have HN5 := jA hn5; clear hr4 hr5 hb hG6 hn4 hn5))
     clear x9 f9
     have hg6 := stays_set HG6.out 3 (.slice A4' n4 c4')
     have hg6 : Stays (w6.setCell ⟨g3, 3, none⟩ (.slice A4' n4 c4')) g3 (gV u0 v1 u2 (.slice A4' n4 c4') (.slice none 0 0) (.slice none 0 0)) 26 := hg6
     have hs6 := (Same.of_below (S := S1 g3) HB6.out).set (a := ⟨g3, 3, none⟩) (.inl rfl) (.slice A4' n4 c4')
     have hr4 := R_set HR4.out HG6.out (by decide) 3 (.slice A4' n4 c4')
     have hr5 := R_set HR5.out HG6.out (by decide) 3 (.slice A4' n4 c4')
     obtain ⟨v4, hv4⟩ : ∃ v4, v4 = Value.slice A4' n4 c4' := ⟨_, rfl⟩
     rw [← hv4] at hg6 hs6 hr4 hr5 ⊢
     obtain ⟨W6, hW6⟩ : ∃ W6, W6 = w6.setCell ⟨g3, 3, none⟩ v4 := ⟨_, rfl⟩
     rw [← hW6] at hg6 hs6 hr4 hr5 ⊢
     have HG6 := jA hg6
     have HS6 := jA hs6
     have HR4 := jA hr4
     have HR5 := jA hr5
     have hCB := hs6.blk HCL.out (by have h := HN2.out; exact h)
     have HRC := jA (Blk.C hCB (by omega))
     have HRK := jA (linesOf_ok (n := d.objs.length) (F := fill d.subs.length (fun j i => matD d i j)) (fun a b _ _ => fill_u16 (fun j i => matD_u16 d ha i j) a b))
     clear hg6 hs6 hr4 hr5 hv4 hW6 hCB HB6
     go_upto_region 20 with (first | (go_at_call 49; ((with_reducible refine (classes_to (some ⟨gc, 0, none⟩) d.objs.length (linesOf d.objs.length (fill d.subs.length (fun j i => matD d i j))) _ d.objs.length (linesOf_length _ _) HRC.out HRK.out ho).mono ?_)); rintro e w7 ⟨v6, v7, rfl, hr6, hr7, hb⟩; obtain ⟨A6', c6', e6⟩ := Kd.R_slice hr6; obtain ⟨A7', c7', e7⟩ := Kd.R_slice hr7; obtain ⟨n6, hn6⟩ : ∃ n6, n6 = (numsOf (linesOf d.objs.length (fill d.subs.length (fun j i => matD d i j)))).length := ⟨_, rfl⟩; obtain ⟨n7, hn7⟩ : ∃ n7, n7 = (firstsOf (linesOf d.objs.length (fill d.subs.length (fun j i => matD d i j)))).length := ⟨_, rfl⟩; rw [← hn6] at e6; rw [← hn7] at e7; subst e6; subst e7; have hG7 := HG6.out.below hb; have x9 := hG7.cell 4; simp only [gV, Jt, Ju, Jv] at x9; have f9 : w7.frozen? ⟨g3, 4, none⟩ = false := frozen_of_row _ _ _ _ _ hG7; have HG7 := jA hG7; have HR6 := jA hr6; have HR7 := jA hr7; have HB7 := jA hb; have HN7 := jA hn7; clear hr6 hr7 hb hG7 hn6 hn7))
     clear x9 f9
     have hg7 := stays_set HG7.out 4 (.slice A6' n6 c6')
     have hg7 : Stays (w7.setCell ⟨g3, 4, none⟩ (.slice A6' n6 c6')) g3 (gV u0 v1 u2 v4 (.slice A6' n6 c6') (.slice none 0 0)) 26 := hg7
     have hs7 := (HS6.out.move HB7.out).set (a := ⟨g3, 4, none⟩) (.inl rfl) (.slice A6' n6 c6')
     have Zr := jA (ap_new HR4.out HR6.out)
     have hr6 := R_set HR6.out HG7.out (by decide) 4 (.slice A6' n6 c6')
     have hr7 := R_set HR7.out HG7.out (by decide) 4 (.slice A6' n6 c6')
     have hr4 := R_set (Kd.R_below HR4.out HB7.out) HG7.out (by decide) 4 (.slice A6' n6 c6')
     have hr5 := R_set (Kd.R_below HR5.out HB7.out) HG7.out (by decide) 4 (.slice A6' n6 c6')
     have hr0 := hs7.toR (offG HU0c.out HG5.out (by decide)) (fun _ h => h)
     have hr1 := hs7.toR (offG HU1c.out HG5.out (by decide)) (fun _ h => h)
     have hr2 := hs7.toR (offG HU2c.out HG5.out (by decide)) (fun _ h => h)
     have hv7 := hs7.stays HV5.out (by have h1 := HG3.out; intro e; have e : gv = g3 := e; omega)
     have hrr := hs7.blk HRW.out (by have h := HN1.out; exact h)
     have hb7 := hs7.below HW5.out (fun k hk => by have h1 := HG3.out; have h2 := HGV.out; have hk : k = g3 := hk; omega)
     obtain ⟨v6, hv6⟩ : ∃ v6, v6 = Value.slice A6' n6 c6' := ⟨_, rfl⟩
     rw [← hv6] at Zr hg7 hr6 hr7 hr4 hr5 hr0 hr1 hr2 hv7 hrr hb7 hs7 ⊢
     obtain ⟨W7, hW7⟩ : ∃ W7, W7 = w7.setCell ⟨g3, 4, none⟩ v6 := ⟨_, rfl⟩
     rw [← hW7] at hg7 hr6 hr7 hr4 hr5 hr0 hr1 hr2 hv7 hrr hb7 hs7 ⊢
     have ZE := hs7.size
     have HR0 := jA (offG hr0 hg7 (by decide))
     have HR1 := jA (Kd.R_lower (offG hr1 hg7 (by decide)) (HW3'.out))
     have HR2 := jA (offG hr2 hg7 (by decide))
     have HR4 := jA (Kd.R_lower (offG hr4 hg7 (by decide)) HW5.out.size)
     have HR5 := jA (Kd.R_lower (offG hr5 hg7 (by decide)) HW5.out.size)
     have HR6 := jA (Kd.R_lower (offG hr6 hg7 (by decide)) (Nat.le_trans HW5.out.size HS6.out.size))
     have HR7 := jA (Kd.R_lower (offG hr7 hg7 (by decide)) (Nat.le_trans HW5.out.size HS6.out.size))
     have HMK := jA (show Mk g3 W7 W7 u0 v1 u2 v4 v6 (.slice none 0 0) [] [] from ⟨Same.refl _ _, hg7, Kd.R_nil _ _ _ _ _, Rws.nil _ _⟩)
     have HV7 := jA hv7
     have HRR := jA hrr
     have HW7 := jA hb7
     clear hg7 hr6 hr7 hr4 hr5 hr0 hr1 hr2 hv7 hrr hb7 hs7 ZE hv6 hW7 HG7 HB7 HS6 HG6 HRC HRK HU0c HU1c HU2c HV5 HG5 HRW HCL HW5
     obtain ⟨WN, hWN⟩ : ∃ WN, WN = firstsN (linesOf d.subs.length (fill d.objs.length (matD d))) := ⟨_, rfl⟩
     obtain ⟨CN, hCN⟩ : ∃ CN, CN = firstsN (linesOf d.objs.length (fill d.subs.length (fun j i => matD d i j))) := ⟨_, rfl⟩
     have hW1 : firstsOf (linesOf d.subs.length (fill d.objs.length (matD d))) = WN.map (fun (n : Nat) => (n : Int)) := by rw [hWN]; rfl
     have hC1 : firstsOf (linesOf d.objs.length (fill d.subs.length (fun j i => matD d i j))) = CN.map (fun (n : Nat) => (n : Int)) := by rw [hCN]; rfl
     have hWlt : ∀ n ∈ WN, n < d.subs.length := fun n hn => by rw [hWN] at hn; have := firstsN_lt hn; rwa [linesOf_length] at this
     have hClt : ∀ n ∈ CN, n < d.objs.length := fun n hn => by rw [hCN] at hn; have := firstsN_lt hn; rwa [linesOf_length] at this
     have hMM : masksM d.subs.length d.objs.length (matD d) = WN.map (fun i => CN.map (fun j => matD d i j)) := by rw [hWN, hCN]; rfl
     have hn5 : n5 = WN.length := by rw [HN5.out, hW1, List.length_map]
     have hn7 : n7 = CN.length := by rw [HN7.out, hC1, List.length_map]
     have Zd : n7 ≤ 64 := by
      have h1 := HN7.out
      rw [firstsOf_length] at h1
      have h2 := uniq_length (linesOf d.objs.length (fill d.subs.length (fun j i => matD d i j)))
      rw [linesOf_length] at h2
      omega
     have ZJ : n5 ≤ 64 := by
      have h1 := HN5.out
      rw [firstsOf_length] at h1
      have h2 := uniq_length (linesOf d.subs.length (fill d.objs.length (matD d)))
      rw [linesOf_length] at h2
      omega
     rw [hW1] at HR5
     rw [hC1] at HR7
     have HWLT := jA hWlt
     have HCLT := jA hClt
     have HMM := jA hMM
     have HW5L := jA hn5
     have HC7L := jA hn7
     clear hWN hCN hW1 hC1 hWlt hClt hMM hn5 hn7 HN5 HN7
     go_wp2
     go_loopw [110] (fun Zf wr => ∃ (a : Nat) (vm : Value) (hs : List Value), a ≤ n5 ∧ Zf = .int .i64 a ∧ Aside0 (Mk g3 W7 wr u0 v1 u2 v4 v6 vm hs ((masksM d.subs.length d.objs.length (matD d)).take a))) (fun Zf _ => n5 - (intOf Zf).toNat)
     case atStart => exact ⟨0, _, [], Nat.zero_le _, rfl, HMK⟩
     case round =>
      obtain ⟨a, vm, hds, ha5, rfl, HA⟩ := hrel
      have HHL := jA HA.out.rows.len
      by_cases ZF : a < n5
      ·have hC5 := (Kd.R_reads' (HA.out.same.toR HR5.out (fun _ h => h))).2.2
       have haw : a < WN.length := by rw [← HW5L.out]; exact ZF
       obtain ⟨ad5, e5, hx5⟩ := Kd.at_int hC5 (a : Int) (by omega) (by rw [List.length_map]; omega)
       subst e5
       have hrd : rd (WN.map (fun (n : Nat) => (n : Int))) (a : Int) = ((WN[a] : Nat) : Int) := by simp [rd, haw]
       rw [hrd] at hx5
       simp only [Int.toNat_natCast] at hx5
       have hin := HWLT.out WN[a] (List.getElem_mem haw)
       have htk : (masksM d.subs.length d.objs.length (matD d)).take (a + 1) = (masksM d.subs.length d.objs.length (matD d)).take a ++ [CN.map (fun j => matD d WN[a] j)] := by
        rw [HMM.out]
        have h := List.take_succ_eq_append_getElem (l := WN.map (fun i => CN.map (fun j => matD d i j))) (i := a) (by simpa using haw)
        simpa using h
       have hmlen : ((masksM d.subs.length d.objs.length (matD d)).take a).length = a := by
        have h0 := HW5L.out; rw [List.length_take, HMM.out, List.length_map]; omega
       obtain ⟨i, hii⟩ : ∃ i, i = WN[a] := ⟨_, rfl⟩
       rw [← hii] at hx5 hin htk
       have HTK := jA htk
       have HIN := jA hin
       have HMLIM := jA (show (((masksM d.subs.length d.objs.length (matD d)).take a).length + 1) * 24 ≤ 140737488355328 by omega)
       obtain ⟨ms, hms⟩ : ∃ ms, ms = (masksM d.subs.length d.objs.length (matD d)).take a := ⟨_, rfl⟩
       rw [← hms] at HA HMLIM HTK HHL
       have hmk := make_row n7 Zd
       have c05 : (a : Int) < n5 := by omega
       clear hC5 haw hrd hin htk hmlen hii hms
       go_upto_region 24 with fail
       clear hmk hx5
       have hb8 := below_alloc (Below.refl _ wr) (.cells (madeCells #[.int .u16 0] n7) 31)
       have hr8 := row_none wr n7 Zd
       have hm8 := HA.out.move hb8
       have Zg := HA.out.older
       have Zh : W7.heap.size ≤ wr.heap.size := HA.out.same.size
       obtain ⟨vr, hvr⟩ : ∃ vr, vr = Value.slice (some ⟨wr.heap.size, 0, none⟩) 0 n7 := ⟨_, rfl⟩
       rw [← hvr] at hr8 ⊢
       obtain ⟨W8, hW8⟩ : ∃ W8, W8 = wr.alloc (.cells (madeCells #[.int .u16 0] n7) 31) := ⟨_, rfl⟩
       obtain ⟨B8, hB8⟩ : ∃ B8, B8 = wr.heap.size := ⟨_, rfl⟩
       rw [← hW8] at hr8 hm8 ⊢
       rw [← hB8] at hr8 Zg Zh
       have HR8 := jA hr8
       have HM8 := jA hm8
       have Zs := jA Zg
       have Zt := jA Zh
       have ZG := jA (show B8 ≤ W8.heap.size by rw [hB8, hW8]; exact hb8.size)
       clear hb8 hr8 hm8 Zg Zh hvr hW8 hB8 HA
       go_wp2
       go_loopw [16, 119] (fun u16 Zi wr => ∃ b : Nat, b ≤ n7 ∧ Zi = .int .i64 b ∧ Aside0 (Mk g3 W7 wr u0 v1 u2 v4 v6 vm hds ms) ∧ Aside0 (Kd.R (Kd.int .u16) 31 wr B8 (fun _ => True) u16 ((CN.map (fun j => matD d i j)).take b)) ∧ Aside0 (B8 ≤ wr.heap.size)) (fun _ Zi _ => n7 - (intOf Zi).toNat)
       case atStart => exact ⟨0, Nat.zero_le _, rfl, HM8, HR8, ZG⟩
       case round =>
        obtain ⟨b, hb7, rfl, HMb, HRb, Zu⟩ := hrel
        by_cases hltb : b < n7
        ·have hC7 := (Kd.R_reads' (HMb.out.same.toR HR7.out (fun _ h => h))).2.2
         have hbw : b < CN.length := by rw [← HC7L.out]; exact hltb
         obtain ⟨ad7, e7, hx7⟩ := Kd.at_int hC7 (b : Int) (by omega) (by rw [List.length_map]; omega)
         subst e7
         have hrd : rd (CN.map (fun (n : Nat) => (n : Int))) (b : Int) = ((CN[b] : Nat) : Int) := by simp [rd, hbw]
         rw [hrd] at hx7
         simp only [Int.toNat_natCast] at hx7
         have hjn := HCLT.out CN[b] (List.getElem_mem hbw)
         have htk : (CN.map (fun j => matD d i j)).take (b + 1) = (CN.map (fun j => matD d i j)).take b ++ [matD d i CN[b]] := by
          have h := List.take_succ_eq_append_getElem (l := CN.map (fun j => matD d i j)) (i := b) (by simpa using hbw)
          simpa using h
         have hrlen : ((CN.map (fun j => matD d i j)).take b).length = b := by have h0 := HC7L.out; rw [List.length_take, List.length_map]; omega
         obtain ⟨j, hjj⟩ : ∃ j, j = CN[b] := ⟨_, rfl⟩
         rw [← hjj] at hx7 hjn htk
         have HTKb := jA htk
         have HRLIM := jA (show (((CN.map (fun j => matD d i j)).take b).length + 1) * 2 ≤ 140737488355328 by omega)
         have hinn := HIN.out
         have n1 : j < 64 := by omega
         have hcell := (HMb.out.same.blk HRR.out (by have h := HN1.out; exact h)).cell (i := i) (j := j) hinn n1
         have hval : fill d.objs.length (matD d) i j = matD d i j := by unfold fill; rw [if_pos hjn]
         rw [hval] at hcell
         obtain ⟨q, hq⟩ : ∃ q, q = matD d i j := ⟨_, rfl⟩
         rw [← hq] at hcell HTKb
         obtain ⟨rl, hrl⟩ : ∃ rl, rl = (CN.map (fun j => matD d i j)).take b := ⟨_, rfl⟩
         rw [← hrl] at HRb HRLIM HTKb
         have c07 : (b : Int) < n7 := by omega
         have c08 : (i : Int) < d.subs.length := by omega
         have c09 : (j : Int) < 64 := by omega
         have hg3b : Stays wr g3 _ 26 := HMb.out.g
         have HNEb := jA (Kd.R_ne HRb.out HMb.out.g (by decide))
         clear hC7 hbw hrd hjn htk hrlen hval hq hrl hjj hg3b
         go_wp2_with (first | ((with_reducible refine gate_builtin (b := .append) (xs := #[.tmp 123, .tmp 130]) rfl ?_); at_builtin; refine Kd.R_append (Kd.int .u16) (w0 := wr) B8 rfl (.tmp 123) (.tmp 130) 32 31 (.int .u16 0) 2 rfl Try.underlying32 PG.info31 rfl (by decide) (by decide) u16 rl q [.int .u16 q] (fun _ => True) (fun _ => False) rfl rfl rfl (fun _ hk => hk.elim) (fun _ _ => trivial) HRb.out (Below.refl _ _) (Zu.out) HRLIM.out ?_; intro v9 w9 hR9 hB9 hg9 Ze; have HR9 := jA hR9; have hM9 := HMb.out.row Zs.out Zt.out (fun k hk => by (obtain ⟨inner, ho⟩ := Kd.R_own HRb.out); exact own_base ho k hk) hg9 HNEb.out; have HM9 := jA hM9; have ZH := jA hg9.size; clear hR9 hB9 hg9 Ze hM9))
         go_roundw
         case rel => exact ⟨b + 1, by omega, by go_num, HM9, ⟨by rw [HTKb.out]; exact HR9.out⟩, ⟨Nat.le_trans Zu.out ZH.out⟩⟩
         case measure => simp [intOf]; omega
        ·have hbb : b = n7 := by omega
         subst hbb
         have hrow := HRb.out
         rw [List.take_of_length_le (by have h0 := HC7L.out; rw [List.length_map]; omega)] at hrow
         obtain ⟨Ar, cr, er⟩ := Kd.R_slice hrow
         obtain ⟨nr, hnr⟩ : ∃ nr, nr = (CN.map (fun j => matD d i j)).length := ⟨_, rfl⟩
         rw [← hnr] at er
         subst er
         have HROW := jA hrow
         have e5 := HMb.out.g.cell 5
         simp only [gV, Jt, Ju, Jv] at e5
         obtain ⟨rl, hrl⟩ : ∃ rl, rl = CN.map (fun j => matD d i j) := ⟨_, rfl⟩
         rw [← hrl] at HROW HTK
         have HSZ := jA HMb.out.same.size
         have hpm : (Kd.raw 1).M wr W7.heap.size (fun _ => False) (hd1 (.slice Ar nr cr)) [.slice Ar nr cr] := ⟨rfl, rfl, fun u hu => by rw [List.mem_singleton.1 hu]; rfl⟩
         have HAPR := jA (show ∀ u ∈ hds, Ap u (.slice Ar nr cr) from fun u hu => ap_lt (B := B8) (Zs.out.2 u hu) (Kd.R_base HROW.out))
         have HROW' := jA (Kd.R_lower HROW.out Zt.out)
         have HMLEN := jA (show ((hds.map hd1).length + 1) * 24 ≤ 140737488355328 by have h0 := HMLIM.out; have h1 := HHL.out; rw [List.length_map, h1]; exact h0)
         have HPM := jA hpm
         clear hrow hnr hrl HRb hpm
         go_upto_region 30 with (first | ((with_reducible refine gate_builtin (b := .append) (xs := #[.tmp 134, .tmp 136]) rfl ?_); at_builtin; refine Kd.R_append (Kd.raw 1) (w0 := wr) W7.heap.size rfl (.tmp 134) (.tmp 136) 24 32 (.slice none 0 0) 24 rfl Try.underlying24 info32 rfl (by decide) (by decide) vm (hds.map hd1) (hd1 (.slice Ar nr cr)) [.slice Ar nr cr] (fun _ => True) (fun _ => False) rfl rfl HPM.out (fun _ hk => hk.elim) (fun _ _ => trivial) HMb.out.raw (Below.refl _ _) HSZ.out HMLEN.out ?_; intro v11 w11 Zj ZI Zk Zv; have Zw := jA (HMb.out.app Zj Zk HROW'.out HAPR.out); have Zl : Stays w11 g3 (gV u0 v1 u2 v4 v6 vm) 26 := (Zk.block _ (Array.getElem?_eq_some_iff.1 HMb.out.g).1 (Kd.R_ne HMb.out.raw HMb.out.g (by decide))).trans HMb.out.g; have x11 := Zl.cell 5; simp only [gV, Jt, Ju, Jv] at x11; have f11 : w11.frozen? ⟨g3, 5, none⟩ = false := frozen_of_row _ _ _ _ _ Zl; obtain ⟨A11, c11, e11⟩ := Kd.R_slice Zj; obtain ⟨n11, Zx⟩ : ∃ n11, n11 = (hds.map hd1 ++ [hd1 (.slice Ar nr cr)]).length := ⟨_, rfl⟩; rw [← Zx] at e11; subst e11; clear Zj ZI Zk Zv Zl Zx))
         clear e5 x11 f11
         rw [← HTK.out] at Zw
         go_wp2
         go_roundw
         case rel => exact ⟨a + 1, _, _, by omega, by go_num, Zw⟩
         case measure => simp [intOf]; omega
      ·have haa : a = n5 := by omega
       subst haa
       have hA := HA.out
       rw [List.take_of_length_le (by have h0 := HW5L.out; rw [HMM.out, List.length_map]; omega)] at hA
       have hVf := hA.same.stays HV7.out (by have h1 := HG3.out; intro e; have e : gv = g3 := e; omega)
       have q0 := hA.same.toR HR0.out (fun _ h => h)
       have q1 := hA.same.toR HR1.out (fun _ h => h)
       have q2 := hA.same.toR HR2.out (fun _ h => h)
       have q3 := hA.same.toR HR4.out (fun _ h => h)
       have q4 := hA.same.toR HR6.out (fun _ h => h)
       have q5 := hA.raw
       have HRWS := jA (hA.rows.lower HW7.out.size)
       obtain ⟨B0', k0, rfl⟩ := Kd.R_slice q0
       obtain ⟨B1', k1, rfl⟩ := Kd.R_slice q1
       obtain ⟨B2', k2, rfl⟩ := Kd.R_slice q2
       obtain ⟨B3', k3, rfl⟩ := Kd.R_slice q3
       obtain ⟨B4', k4, rfl⟩ := Kd.R_slice q4
       obtain ⟨B5', k5, e5⟩ := Kd.R_slice q5
       have hml : (hds.map hd1).length = (masksM d.subs.length d.objs.length (matD d)).length := by
        have h0 := hA.rows.len
        rw [List.length_map]; exact h0
       rw [hml] at e5
       subst e5
       obtain ⟨G0, hG0⟩ : ∃ G0 : Array Value, G0 = gV (.slice B0' d.acts.length k0) (.slice B1' (d.subs.map (·.f0)).length k1) (.slice B2' d.objs.length k2) (.slice B3' (numsOf (linesOf d.subs.length (fill d.objs.length (matD d)))).length k3) (.slice B4' (numsOf (linesOf d.objs.length (fill d.subs.length (fun j i => matD d i j)))).length k4) (.slice B5' (masksM d.subs.length d.objs.length (matD d)).length k5) := ⟨_, rfl⟩
       have hsz : G0.size = 6 := by rw [hG0]; rfl
       have h1c : G0.all (·.oneCell') = true := by rw [hG0]; simp [gV, Value.oneCell']
       have hg := hA.g
       rw [← hG0] at hg
       have HVF := jA hVf
       have HGF := jA hg
       have HSZ := jA (show (Try.prog.info? 26).map (·.size) = some G0.size by rw [hsz]; exact i26)
       have Zy := jA (show G0.size = (#[.slice none 0 0, .slice none 0 0, .slice none 0 0, .slice none 0 0, .slice none 0 0, .slice none 0 0] : Array Value).size by rw [hsz]; rfl)
       have H1C := jA h1c
       have HG0 := jA hG0
       have HBF := jA (hA.same.below HW7.out (fun k hk => by have h1 := HG3.out; have h2 := HGV.out; have hk : k = g3 := hk; omega))
       have Q0 := jA q0
       have Q1 := jA q1
       have Q2 := jA q2
       have Q3 := jA q3
       have Q4 := jA q4
       have Q5 := jA q5
       clear hA hVf q0 q1 q2 q3 q4 q5 hsz h1c hg hG0 HA
       go_wp2_with (first | ((with_reducible refine gate_dst (N := 140) rfl ?_); refine wpList_load_blk rfl 26 (.tmp 3) rfl g3 ?hx G0 26 HGF.out _ Try.underlying26 rfl HSZ.out ?_; (case hx => rfl)) | ((with_reducible refine gate_store (t := 26) (p := 2) (v := .tmp 140) rfl ?_); refine wpList_store_var rfl 26 (.tmp 2) (.tmp 140) rfl gv G0 ?hx ?hy HVF.out Zy.out HSZ.out H1C.out ?_; (case hx => rfl); (case hy => rfl)))
       (try simp only [Exit.inBlock, Exit.then])
       have hres := setCells_var (vs := G0) HVF.out Zy.out
       refine bodyPost_ret (results_single rfl (.cell gv 26 G0 (0, 0) _ rfl hres Try.underlying26 rfl HSZ.out .nil)) rfl ?_
       have p0 := R_setCells Q0.out HVF.out (by decide) G0.toList
       have p1 := R_setCells Q1.out HVF.out (by decide) G0.toList
       have p2 := R_setCells Q2.out HVF.out (by decide) G0.toList
       have p3 := R_setCells Q3.out HVF.out (by decide) G0.toList
       have p4 := R_setCells Q4.out HVF.out (by decide) G0.toList
       have p5 := Kd.R_lower (R_setCells Q5.out HVF.out (by decide) G0.toList) HW7.out.size
       have hrs : Rws (World.setCells wr gv 0 G0.toList) w.heap.size hds (masksM d.subs.length d.objs.length (matD d)) := HRWS.out.stay (fun v hv k hk _ => setCells_far _ 0 k (fun e => by
        subst e
        obtain ⟨c, hc⟩ := HRWS.out.typed v hv k hk
        have hh := HVF.out
        rw [show wr.heap[k]? = _ from hh] at hc
        cases hc))
       refine ⟨⟨B0', k0, d.acts, B1', k1, d.subs.map (·.f0), B2', k2, d.objs, B3', k3, numsOf (linesOf d.subs.length (fill d.objs.length (matD d))), B4', k4, numsOf (linesOf d.objs.length (fill d.subs.length (fun j i => matD d i j))), B5', k5, masksM d.subs.length d.objs.length (matD d)⟩, ?_, ⟨hds, ⟨R_ok rfl p0 (Kd.R_lt p0), R_ok rfl p1 (Kd.R_lt p1), R_ok rfl p2 (Kd.R_lt p2), R_ok rfl p3 (Kd.R_lt p3), R_ok rfl p4 (Kd.R_lt p4), R_ok rfl p5 (Kd.R_lt p5), hrs, hrs.lt, ZC.out, HAP.out, ZD.out.symm, Zr.out⟩⟩, ?_, rfl, rfl, rfl, rfl, rfl, rfl, setCells_below HBF.out (Nat.le_of_lt HGV.out) _⟩
       ·rw [HG0.out]; rfl
       ·intro row hr x hx
        have hr : row ∈ masksM d.subs.length d.objs.length (matD d) := hr
        unfold masksM at hr
        obtain ⟨i, _, rfl⟩ := List.mem_map.1 hr
        obtain ⟨j, _, rfl⟩ := List.mem_map.1 hx
        exact matD_u16 d ha i j
end Go.Proofs.Ythaiodklfoegiaa.COwn
namespace Go.Proofs.Ythaiodklfoegiaa.PG
open YthaiodklfoegiaaF
attribute [local go_sem high] run_feq run_fne run_flt_lt run_flt_le run_flt_gt run_flt_ge
open Go.RowKit YthaiodklfoegiaaW.PrintWords YthaiodklfoegiaaW.PrintLast YthaiodklfoegiaaW.PrintMore
attribute [local go_sem] max2_int min2_int max_two min_two max_three min_three max_four min_four
def gatehouseref08_Subjects.l0 : Nat → List ByteArray → Int → List ByteArray → List (S54) → List ByteArray → List ByteArray → List ByteArray → List (S108) → List (S108) → List (S108) → List (S108) → List (S78) → List (S28) → Option (List ByteArray)
 | 0, _, _, _, _, _, _, _, _, _, _, _, _, _ => none
 | k + 1, x3, x4, ZS, Zq, ZT, ZU, ZV, ZW, ZX, ZY, ZZ, Z0, Z1 => if x4 < (Zq.length : Int) then (if 0 ≤ x4 then (if x3.length < 8796093022208 then (gatehouseref08_Subjects.l0 k (x3 ++ [(rd_T54 Zq x4).f0]) (wrap64 (x4 + 1)) ZS Zq ZT ZU ZV ZW ZX ZY ZZ Z0 Z1) else (none)) else (none)) else (some x3)
def gatehouseref08_Subjects.f (k : Nat) (Zf : List ByteArray) (Zd : List (S54)) (Zg : List ByteArray) (Zh : List ByteArray) (Zi : List ByteArray) (Zj : List (S108)) (Zk : List (S108)) (Zl : List (S108)) (Zm : List (S108)) (Zn : List (S78)) (Zc : List (S28)) : Option (List ByteArray) := gatehouseref08_Subjects.l0 k ([] : List ByteArray) 0 Zf Zd Zg Zh Zi Zj Zk Zl Zm Zn Zc
theorem gatehouseref08_Subjects.calls (k : Nat) (Zv : Option Addr) (Zw : Nat) (Zf : List ByteArray) (ZO : Option Addr) (Zx : Nat) (Zd : List (S54)) (Zy : Option Addr) (Zz : Nat) (Zg : List ByteArray) (ZA : Option Addr) (ZB : Nat) (Zh : List ByteArray) (ZC : Option Addr) (ZD : Nat) (Zi : List ByteArray) (ZE : Option Addr) (ZF : Nat) (Zj : List (S108)) (ZG : Option Addr) (ZH : Nat) (Zk : List (S108)) (ZI : Option Addr) (ZJ : Nat) (Zl : List (S108)) (ZK : Option Addr) (ZL : Nat) (Zm : List (S108)) (ZM : Option Addr) (ZN : Nat) (Zn : List (S78)) (Zo : Option Addr) (Zp : Nat) (Zc : List (S28)) (r : List ByteArray) (w : World) (Z3 : Kd.C Kd.string w Zv Zf.length Zf) (Z4 : Zf.length ≤ Zw) (Z5 : Kd.C k54 w ZO Zd.length Zd) (Z6 : Zd.length ≤ Zx) (Z7 : Kd.C Kd.string w Zy Zg.length Zg) (Z8 : Zg.length ≤ Zz) (Z9 : Kd.C Kd.string w ZA Zh.length Zh) (Ya : Zh.length ≤ ZB) (Yb : Kd.C Kd.string w ZC Zi.length Zi) (Yc : Zi.length ≤ ZD) (Yd : Kd.C k108 w ZE Zj.length Zj) (Ye : Zj.length ≤ ZF) (Yf : Kd.C k108 w ZG Zk.length Zk) (Yg : Zk.length ≤ ZH) (Yh : Kd.C k108 w ZI Zl.length Zl) (Yi : Zl.length ≤ ZJ) (Yj : Kd.C k108 w ZK Zm.length Zm) (Yk : Zm.length ≤ ZL) (Yl : Kd.C k78 w ZM Zn.length Zn) (Ym : Zn.length ≤ ZN) (ZQ : Kd.C k28 w Zo Zc.length Zc) (ZR : Zc.length ≤ Zp) (h : gatehouseref08_Subjects.f k Zf Zd Zg Zh Zi Zj Zk Zl Zm Zn Zc = some r) :
  Calls Try.prog 43 #[.agg #[.slice Zv Zf.length Zw, .slice ZO Zd.length Zx, .slice Zy Zg.length Zz, .slice ZA Zh.length ZB, .slice ZC Zi.length ZD, .slice ZE Zj.length ZF, .slice ZG Zk.length ZH, .slice ZI Zl.length ZJ, .slice ZK Zm.length ZL, .slice ZM Zn.length ZN, .slice Zo Zc.length Zp]] w fun e w' => ∃ v0_ : Value, e = .returned (v0_) ∧ Kd.R Kd.string 9 w' w.heap.size (fun _ => True) v0_ r ∧ Below w.heap.size w w' := by
 have XA := Try.underlying39
 have Xg := jA Z3
 have Xh := jA Z4
 clear Z3 Z4
 have Yp := jA Z5
 have Xi := jA Z6
 clear Z5 Z6
 have Xj := jA Z7
 have Xk := jA Z8
 clear Z7 Z8
 have Xl := jA Z9
 have Xm := jA Ya
 clear Z9 Ya
 have Xn := jA Yb
 have Xo := jA Yc
 clear Yb Yc
 have Xp := jA Yd
 have Xq := jA Ye
 clear Yd Ye
 have Xr := jA Yf
 have Xs := jA Yg
 clear Yf Yg
 have Xt := jA Yh
 have Xu := jA Yi
 clear Yh Yi
 have Xv := jA Yj
 have Xw := jA Yk
 clear Yj Yk
 have Xx := jA Yl
 have Xy := jA Ym
 clear Yl Ym
 have Yy := jA ZQ
 have Yz := jA ZR
 clear ZQ ZR
 have HB := jA (Below.refl w.heap.size w)
 have H : (gatehouseref08_Subjects.l0 k ([] : List ByteArray) 0 Zf Zd Zg Zh Zi Zj Zk Zl Zm Zn Zc) = some r := h
 clear h
 have H' := jA H
 clear H
 go_enter Try.func43, Try.ntmps43
 go_wp2_with (first | ((with_reducible refine gate_dst (N := 1) rfl ?_); refine box_event ?hg (N := 1) ?hd (cs := #[.slice Zv Zf.length Zw, .slice ZO Zd.length Zx, .slice Zy Zg.length Zz, .slice ZA Zh.length ZB, .slice ZC Zi.length ZD, .slice ZE Zj.length ZF, .slice ZG Zk.length ZH, .slice ZI Zl.length ZJ, .slice ZK Zm.length ZL, .slice ZM Zn.length ZN, .slice Zo Zc.length Zp]) (t := 39) ?hr ?_; (case hd => rfl); (case hg => rfl); (case hr => first | (go_simp; done) | (go_simp; rfl)); intro Zb hg w2 hbox hb; have n0_ := jA (below_step (by repeat (first | (with_reducible first | exact HB.out | apply below_alloc | apply pw_below_drewN | apply below_drew1) | exact HB.out)) hb); have n1_ := jA (hbox); have n2_ := jA ((by rw [hg]; exact (below_size (by repeat (first | (with_reducible first | exact HB.out | apply below_alloc | apply pw_below_drewN | apply below_drew1) | exact HB.out))) : w.heap.size ≤ Zb)); have n3_ := jA ((by rw [hg]; exact (below_size (by repeat (first | (with_reducible first | exact HB.out | apply below_alloc | apply pw_below_drewN | apply below_drew1) | exact HB.out))) : w.heap.size ≤ Zb)); clear HB; have HB := n0_; have Za := n1_; have Xz := n2_; have Zt := n3_; clear n0_ n1_ n2_ n3_; clear hb hbox hg))
 go_loopg [3, 4] k (fun kq v3 v4 w' => ∃ (ZP : List ByteArray) (Ze : Int), v4 = .int .i64 Ze ∧ Aside0 (gatehouseref08_Subjects.l0 kq ZP Ze Zf Zd Zg Zh Zi Zj Zk Zl Zm Zn Zc = some r) ∧ Aside0 (kq ≤ k) ∧ Aside0 (Kd.R Kd.string 9 w' w.heap.size (fun _ => True) v3 ZP) ∧ Aside0 (w'.heap[Zb]? = some (.cells #[(.slice Zv Zf.length Zw), (.slice ZO Zd.length Zx), (.slice Zy Zg.length Zz), (.slice ZA Zh.length ZB), (.slice ZC Zi.length ZD), (.slice ZE Zj.length ZF), (.slice ZG Zk.length ZH), (.slice ZI Zl.length ZJ), (.slice ZK Zm.length ZL), (.slice ZM Zn.length ZN), (.slice Zo Zc.length Zp)] 39 (0, 0))) ∧ Aside0 (Below w.heap.size w w'))
 case atStart => exact ⟨(([] : List ByteArray)), (0), (by first | rfl | (simp; done) | (simp [*]; done)), H', ⟨Nat.le_refl _⟩, ⟨by first | exact Kd.R_nil _ _ _ _ _ | exact Kd.N_nil _ _ _ _ _ | exact Kd.V_nil _ _ _ _ _ | exact Kd.Q_nil _ _ _ _ _ | exact Kd.S_nil _ _ _ _ _⟩, ⟨by (with_reducible repeat (first | refine blk_drewN ?_ _ | refine blk_drew ?_ | refine blk_alloc ?_ _)); exact Za.out⟩, ⟨by repeat (first | (with_reducible first | exact HB.out | apply below_alloc | apply pw_below_drewN | apply below_drew1 | refine below_set ?_ Zt.out) | exact HB.out)⟩⟩
 case round =>
  clear H'
  try clear p2
  obtain ⟨ZP, Ze, rfl, HA, HK1, Z2, Za, HB⟩ := hrel
  cases gk with
  | zero => exact absurd HA.out (by simp [gatehouseref08_Subjects.l0])
  | succ k1 =>
   have H := HA.out
   clear HA
   simp only [gatehouseref08_Subjects.l0] at H
   by_cases c3 : Ze < (Zd.length : Int)
   ·rw [if_pos c3] at H
    have c3b0 : decide (Ze < (Zd.length : Int)) = true := decide_eq_true c3
    clear c3
    by_cases c4 : 0 ≤ Ze
    ·rw [if_pos c4] at H
     have c4b0 : decide (0 ≤ Ze) = true := decide_eq_true c4
     clear c4
     by_cases c5 : ZP.length < 8796093022208
     ·rw [if_pos c5] at H
      have YA := jA c5
      clear c5
      obtain ⟨Yq, Zu⟩ : ∃ y_ : List ByteArray, y_ = (ZP ++ [(rd_T54 Zd Ze).f0]) := ⟨_, rfl⟩
      replace H : (gatehouseref08_Subjects.l0 k1 Yq (wrap64 (Ze + 1)) Zf Zd Zg Zh Zi Zj Zk Zl Zm Zn Zc) = some r := by first | (rw [Zu]; with_reducible exact H) | (have H2_ := (Option.bind_some _ _).symm.trans H; rw [Zu]; with_reducible exact H2_) | (have H2_ := (Option.bind_some _ _).symm.trans H; with_reducible exact H2_) | with_reducible exact H | (rw [Zu]; exact H) | exact H
      have Yr := jA Zu
      clear Zu
      have H' := jA H
      clear H
      have YB : wr.cell? ⟨Zb, 0, none⟩ = some (.slice Zv Zf.length Zw) := (blk_cell Za.out 0).trans rfl
      have YC : wr.cell? ⟨Zb, 1, none⟩ = some (.slice ZO Zd.length Zx) := (blk_cell Za.out 1).trans rfl
      have YD : wr.cell? ⟨Zb, 2, none⟩ = some (.slice Zy Zg.length Zz) := (blk_cell Za.out 2).trans rfl
      have YE : wr.cell? ⟨Zb, 3, none⟩ = some (.slice ZA Zh.length ZB) := (blk_cell Za.out 3).trans rfl
      have YF : wr.cell? ⟨Zb, 4, none⟩ = some (.slice ZC Zi.length ZD) := (blk_cell Za.out 4).trans rfl
      have YG : wr.cell? ⟨Zb, 5, none⟩ = some (.slice ZE Zj.length ZF) := (blk_cell Za.out 5).trans rfl
      have YH : wr.cell? ⟨Zb, 6, none⟩ = some (.slice ZG Zk.length ZH) := (blk_cell Za.out 6).trans rfl
      have YI : wr.cell? ⟨Zb, 7, none⟩ = some (.slice ZI Zl.length ZJ) := (blk_cell Za.out 7).trans rfl
      have YJ : wr.cell? ⟨Zb, 8, none⟩ = some (.slice ZK Zm.length ZL) := (blk_cell Za.out 8).trans rfl
      have YK : wr.cell? ⟨Zb, 9, none⟩ = some (.slice ZM Zn.length ZN) := (blk_cell Za.out 9).trans rfl
      have Yu : wr.cell? ⟨Zb, 10, none⟩ = some (.slice Zo Zc.length Zp) := (blk_cell Za.out 10).trans rfl
      have YL := blk_frozen Za.out 0
      have YM := blk_frozen Za.out 1
      have YN := blk_frozen Za.out 2
      have YO := blk_frozen Za.out 3
      have YP := blk_frozen Za.out 4
      have YQ := blk_frozen Za.out 5
      have YR := blk_frozen Za.out 6
      have YS := blk_frozen Za.out 7
      have YT := blk_frozen Za.out 8
      have YU := blk_frozen Za.out 9
      have Yv := blk_frozen Za.out 10
      have Yn : 0 ≤ (Ze : Int) := of_decide_eq_true (by first | (with_reducible assumption) | assumption)
      have Yo : Ze < (Zd.length : Int) := of_decide_eq_true (by first | (with_reducible assumption) | assumption)
      obtain ⟨Ys, YV, Zr, Zs⟩ := at_T54 Yp.out Ze Yn Yo
      cases YV
      replace Zr := (HB.out.cell (World.block_lt_of_cell? w _ Zr)).trans Zr
      replace Zs := (HB.out.cell (World.block_lt_of_cell? w _ Zs)).trans Zs
      replace Yn := eq_true Yn
      replace Yo := eq_true Yo
      go_wp2_with (first | ((with_reducible refine gate_builtin (b := .append) (xs := #[.tmp 12, .tmp 19]) rfl ?_); at_builtin; refine Kd.R_append Kd.string (w0 := w) w.heap.size rfl (.tmp 12) (.tmp 19) 22 9 (.string ⟨#[]⟩) 16 rfl Try.underlying22 info9 rfl (by decide) (by omega) u3 ZP ((rd_T54 Zd Ze).f0) [.string ((rd_T54 Zd Ze).f0)] (fun _ => True) (fun _ => False) rfl rfl ?aP (fun _ hk => hk.elim) ?aF ?aO ?aB ?aS ?aL ?_; (case aP => exact rfl); (case aB => exact (by repeat (first | (with_reducible first | exact HB.out | apply below_alloc | apply pw_below_drewN | apply below_drew1 | refine below_set ?_ Zt.out) | exact HB.out))); (case aF => exact (fun _ _ => trivial)); (case aO => exact (by (with_reducible repeat (first | apply Kd.R_alloc | apply Kd.R_drewN | apply Kd.R_drew)); exact Z2.out)); (case aS => exact (below_size (by repeat (first | (with_reducible first | exact HB.out | apply below_alloc | apply pw_below_drewN | apply below_drew1 | refine below_set ?_ Zt.out) | exact HB.out)))); (case aL => have := YA.out; omega); intro XB w7 ho hb hg hat; rw [← Yr.out] at ho; have n0_ := jA (blk_grown (g := Zb) (o := .cells #[.slice Zv Zf.length Zw, .slice (some Ys) Zd.length Zx, .slice Zy Zg.length Zz, .slice ZA Zh.length ZB, .slice ZC Zi.length ZD, .slice ZE Zj.length ZF, .slice ZG Zk.length ZH, .slice ZI Zl.length ZJ, .slice ZK Zm.length ZL, .slice ZM Zn.length ZN, .slice Zo Zc.length Zp] 39 (0, 0)) (by (with_reducible repeat (first | refine blk_drewN ?_ _ | refine blk_drew ?_ | refine blk_alloc ?_ _)); exact Za.out) hg (Kd.R_ne Z2.out Za.out (by decide))); have n1_ := jA (hb); have n2_ := jA (ho); clear Za; clear HB; clear Z2; have Za := n0_; have HB := n1_; have Yt := n2_; clear n0_ n1_ n2_; clear ho hb hg hat))
      go_roundg k1
      case measure => have := HK1.out; omega
      case rel => exact ⟨(Yq), (wrap64 (Ze + 1)), (by first | rfl | (simp; done) | (simp [*]; done)), H', ⟨by have := HK1.out; omega⟩, ⟨by (with_reducible repeat (first | apply Kd.R_alloc | apply Kd.R_drewN | apply Kd.R_drew)); exact Yt.out⟩, ⟨by (with_reducible repeat (first | refine blk_drewN ?_ _ | refine blk_drew ?_ | refine blk_alloc ?_ _)); exact Za.out⟩, ⟨by repeat (first | (with_reducible first | exact HB.out | apply below_alloc | apply pw_below_drewN | apply below_drew1 | refine below_set ?_ Zt.out) | exact HB.out)⟩⟩
     ·rw [if_neg c5] at H
      exact absurd H (by simp)
    ·rw [if_neg c4] at H
     exact absurd H (by simp)
   ·rw [if_neg c3] at H
    have c3b0 : decide (Ze < (Zd.length : Int)) = false := decide_eq_false c3
    clear c3
    obtain rfl := Option.some.inj H
    have YW : wr.cell? ⟨Zb, 0, none⟩ = some (.slice Zv Zf.length Zw) := (blk_cell Za.out 0).trans rfl
    have YX : wr.cell? ⟨Zb, 1, none⟩ = some (.slice ZO Zd.length Zx) := (blk_cell Za.out 1).trans rfl
    have YY : wr.cell? ⟨Zb, 2, none⟩ = some (.slice Zy Zg.length Zz) := (blk_cell Za.out 2).trans rfl
    have YZ : wr.cell? ⟨Zb, 3, none⟩ = some (.slice ZA Zh.length ZB) := (blk_cell Za.out 3).trans rfl
    have Y0 : wr.cell? ⟨Zb, 4, none⟩ = some (.slice ZC Zi.length ZD) := (blk_cell Za.out 4).trans rfl
    have Y1 : wr.cell? ⟨Zb, 5, none⟩ = some (.slice ZE Zj.length ZF) := (blk_cell Za.out 5).trans rfl
    have Y2 : wr.cell? ⟨Zb, 6, none⟩ = some (.slice ZG Zk.length ZH) := (blk_cell Za.out 6).trans rfl
    have Y3 : wr.cell? ⟨Zb, 7, none⟩ = some (.slice ZI Zl.length ZJ) := (blk_cell Za.out 7).trans rfl
    have Y4 : wr.cell? ⟨Zb, 8, none⟩ = some (.slice ZK Zm.length ZL) := (blk_cell Za.out 8).trans rfl
    have Y5 : wr.cell? ⟨Zb, 9, none⟩ = some (.slice ZM Zn.length ZN) := (blk_cell Za.out 9).trans rfl
    have Yw : wr.cell? ⟨Zb, 10, none⟩ = some (.slice Zo Zc.length Zp) := (blk_cell Za.out 10).trans rfl
    have Y6 := blk_frozen Za.out 0
    have Y7 := blk_frozen Za.out 1
    have Y8 := blk_frozen Za.out 2
    have Y9 := blk_frozen Za.out 3
    have Xa := blk_frozen Za.out 4
    have Xb := blk_frozen Za.out 5
    have Xc := blk_frozen Za.out 6
    have Xd := blk_frozen Za.out 7
    have Xe := blk_frozen Za.out 8
    have Xf := blk_frozen Za.out 9
    have Yx := blk_frozen Za.out 10
    go_wp2
    go_ret
    exact ⟨_, by first | rfl | (simp [errW_none, errW_some] <;> rfl) | (simp [*, errW_none, errW_some] <;> rfl), by (with_reducible repeat (first | apply Kd.R_alloc | apply Kd.R_drewN | apply Kd.R_drew)); exact Z2.out, by repeat (first | (with_reducible first | exact HB.out | apply below_alloc | apply pw_below_drewN | apply below_drew1 | refine below_set ?_ Zt.out) | exact HB.out)⟩
end Go.Proofs.Ythaiodklfoegiaa.PG
/- gatehouseref11.Compile, walked: the document's graph. -/
namespace Go.Proofs.Ythaiodklfoegiaa.ORef
open Go.RowKit YthaiodklfoegiaaW.PrintWords YthaiodklfoegiaaW.PrintLast YthaiodklfoegiaaW.PrintMore BRow GDiffer CPure RPure CSame DTab GValid MSide MPol OBase COwn Go.Maps
open PG
abbrev kLs : Kd (List Int) := Kd.slice 31 (Kd.int .u16)
theorem row_go {Wt W : World} {At : Option Addr} {ct : Nat} {tab : List (List Int)} {n : Nat} (hC : kLs.C Wt At n tab) (i : Nat) (hi : i < tab.length) (hn : tab.length = n) (hb : Below Wt.heap.size Wt W) :
  Calls Try.prog 42 #[.slice At n ct, .int .i64 i] W fun e w' => ∃ Ar m cr, e = .returned (.slice Ar m cr) ∧ kLs.K Wt (tab.getD i []) [.slice Ar m cr] ∧ Below W.heap.size W w' := by
 subst hn
 obtain ⟨ad, c, rfl, _, hK, hc⟩ := Kd.C_get hC ([] : List Int) (i : Int) (by omega) (by omega)
 rw [Int.toNat_natCast] at hK hc
 obtain ⟨A', c', rfl, hl, hC'⟩ := hK
 have h0 := pw_cell_below hb (hc 0 _ rfl)
 have hsz : kLs.sz = 1 := rfl
 rw [hsz, Nat.mul_one, Nat.add_zero] at h0
 have HK := jA (show kLs.K Wt (tab.getD i []) [.slice A' (tab.getD i []).length c'] from ⟨A', c', rfl, hl, hC'⟩)
 generalize (tab.getD i []).length = m at h0 HK
 have p0 := eq_true (show 0 ≤ (i : Int) by omega)
 have q0 := eq_true (show (i : Int) < (tab.length : Int) by omega)
 have HB := jA (Below.refl W.heap.size W)
 clear hc hl hC' hsz hC hb hi
 go_enter Try.func42, Try.ntmps42
 go_wp2
 go_ret
 exact ⟨_, _, _, rfl, HK.out, by repeat (first | (with_reducible first | exact HB.out | apply below_alloc | apply pw_below_drewN | apply below_drew1) | exact HB.out)⟩
theorem tab_len (d : PolD) : (tabD d).length = d.subs.length := by simp [tabD]
theorem tab_row {d : PolD} {r : List Int} (h : r ∈ tabD d) : r.length = d.objs.length := by
 obtain ⟨i, _, rfl⟩ := List.mem_map.1 h
 simp [rowD]
theorem table_go (p : Pol) (w : World) (hp : p.In w) (hF : Fit p.d) : Calls Try.prog 41 #[.agg p.cells] w fun e w' => ∃ A c, e = .returned (.slice A p.d.subs.length c) ∧ p.d.subs.length ≤ c ∧ kLs.C w' A p.d.subs.length (tabD p.d) ∧ Below w.heap.size w w' := OTab.table_go p w hp hF
theorem subjects_ev (d : PolD) (hs : d.subs.length ≤ 64) : ∀ (m n : Nat), n + m = d.subs.length → Ev (fun k => gatehouseref08_Subjects.l0 k ((d.subs.map (·.f0)).take n) n d.acts d.subs d.roles d.objs d.grps d.mem d.inh d.par d.wit d.rules d.exc) (d.subs.map (·.f0))
 | 0, n, h => by
  rw [List.take_of_length_le (by simp; omega)]
  refine Ev.step (f := fun _ => some _) (fun k => ?_) (Ev.now _)
  simp only [gatehouseref08_Subjects.l0]
  rw [if_neg (by omega)]
 | m + 1, n, h => by
  have hn : n < d.subs.length := by omega
  refine Ev.step (fun k => ?_) (subjects_ev d hs m (n + 1) (by omega))
  simp only [gatehouseref08_Subjects.l0]
  have hw : wrap64 ((n : Int) + 1) = ((n + 1 : Nat) : Int) := by unfold wrap64; omega
  have hr : rd_T54 d.subs (n : Int) = d.subs[n] := by simp [rd_T54, hn]
  rw [if_pos (by omega), if_pos (by omega), if_pos (by simp; omega), hw, hr, List.take_succ_eq_append_getElem (by simpa using hn), List.getElem_map]
theorem subjects_go (p : Pol) (w : World) (hp : p.In w) (hs : p.d.subs.length ≤ 64) : Calls Try.prog 43 #[.agg p.cells] w fun e w' => ∃ v, e = .returned v ∧ Kd.R Kd.string 9 w' w.heap.size (fun _ => True) v (p.d.subs.map (·.f0)) ∧ Below w.heap.size w w' := by
 obtain ⟨k, hk⟩ := (subjects_ev p.d hs p.d.subs.length 0 (by omega)).rounds
 exact gatehouseref08_Subjects.calls k p.A0 p.c0 p.d.acts p.A1 p.c1 p.d.subs p.A2 p.c2 p.d.roles p.A3 p.c3 p.d.objs p.A4 p.c4 p.d.grps p.A5 p.c5 p.d.mem p.A6 p.c6 p.d.inh p.A7 p.c7 p.d.par p.A8 p.c8 p.d.wit p.A9 p.c9 p.d.rules p.A10 p.c10 p.d.exc _ w hp.h0 hp.l0 hp.h1 hp.l1 hp.h2 hp.l2 hp.h3 hp.l3 hp.h4 hp.l4 hp.h5 hp.l5 hp.h6 hp.l6 hp.h7 hp.l7 hp.h8 hp.l8 hp.h9 hp.l9 hp.h10 hp.l10 hk
theorem column_go {W : World} {At : Option Addr} {ct : Nat} {tab : List (List Int)} {n : Nat} (hC : kLs.C W At n tab) (hn : tab.length = n) (hc : n ≤ ct) (hl : n ≤ 64) (j : Nat) (hj : ∀ r ∈ tab, j < r.length) :
  Calls Try.prog 40 #[.slice At n ct, .int .i64 j] W fun e w' => ∃ Ar m cr, e = .returned (.slice Ar m cr) ∧ Kd.R (Kd.int .u16) 31 w' W.heap.size (fun _ => True) (.slice Ar m cr) (VPure.column tab j) ∧ Below W.heap.size W w' := by
 subst hn
 obtain ⟨k, hk⟩ := (VPure.column_f tab j hl hj).rounds
 refine (gatehouseref11_column.calls k At ct tab j _ W hC hc hk).mono ?_
 rintro e w' ⟨v, rfl, h, hb⟩
 obtain ⟨A, c, rfl⟩ := Kd.R_slice h
 exact ⟨A, _, c, rfl, h, hb⟩
theorem classes_go {W : World} {A : Option Addr} {c : Nat} {ls : List (List Int)} {n : Nat} (hC : kLs.C W A n ls) (hn : ls.length = n) (hc : n ≤ c) (hl : n ≤ 64) (hr : ∀ r ∈ ls, r.length ≤ 64) :
  Calls Try.prog 44 #[.slice A n c] W fun e w' => ∃ v0 A1 m1 c1, e = .returned (.tuple #[v0, .slice A1 m1 c1]) ∧ Kd.R (Kd.int .i64) 3 w' W.heap.size (fun _ => True) v0 (numsOf ls) ∧ Kd.R (Kd.int .i64) 3 w' W.heap.size (fun _ => True) (.slice A1 m1 c1) (firstsOf ls) ∧ Below W.heap.size W w' := by
 subst hn
 obtain ⟨k, hk⟩ := classes_f hl hr
 refine (gatehouseref11_classes.calls k A c ls _ _ W hC hc hk).mono ?_
 rintro e w' ⟨v0, v1, rfl, h0, h1, hb⟩
 obtain ⟨A1, c1, rfl⟩ := Kd.R_slice h1
 exact ⟨v0, A1, _, c1, rfl, Kd.R_mono h0 (fun _ _ => trivial), Kd.R_mono h1 (fun _ _ => trivial), hb⟩
theorem mat_columns (d : PolD) : (List.range d.objs.length).map (VPure.column (tabD d)) = rowsM d.objs.length d.subs.length (fun j i => matD d i j) := by
 unfold rowsM
 refine List.map_congr_left fun j hj => ?_
 rw [List.mem_range] at hj
 unfold VPure.column tabD
 rw [List.map_map]
 refine List.map_congr_left fun i _ => ?_
 simp [rowD, hj]
end Go.Proofs.Ythaiodklfoegiaa.ORef
