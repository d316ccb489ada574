/- Of this session's texts, what the row uses: PGx24, PGx1, PGx25, PGx26, PGraphDecidex0, PGraphDecidex1, PGraphDecidex3, DecPure, CPure, PGx35, CBits, GBlk, CClasses, MSubj, MAbout, PGx29, PGx30, PGx31, MAllowsPure, MAllow. -/
import Derived.Test.YthaiodklfoegiaaZ1
import Derived.Test.YthaiodklfoegiaaZ2
import Derived.Test.YthaiodklfoegiaaProg
import Derived.Below
import Derived.Deep.Draws
import Derived.Deep.AppendLies
import Derived.Maps.AppendAt
import Derived.OwnWalk
import Derived.Laws.BytesArg
import Derived.Laws.MakeOwn
import Derived.Laws.OwnMore
import Derived.Deep.OwnRows
import Derived.Tactics
import Derived.Lib.ConvBytes
import Derived.Laws.Slices
import Derived.WalkKit
import Derived.KernelRfl
import Derived.RowKit3
import Derived.Deep.LoopGhost
import Derived.Deep.QuietTactic
import Derived.BigQuiet
import Derived.WideLaws
import Derived.Deep.DeepCutAuto
import Derived.Deep.CutBlock
import Derived.Deep.RegionHeld3
import Derived.Laws.Rows
import Derived.Lib.AppendStr
import Derived.ArgAppend
import Derived.Laws.IdiomCopy
import Derived.OrdersHeld
import Derived.Laws.BitsLemmas
import Derived.RowKit
import Derived.Deep.MidRow
set_option linter.unusedSimpArgs false
set_option linter.unusedVariables false
set_option maxHeartbeats 8000000
set_option maxRecDepth 100000
namespace Go.Proofs.Ythaiodklfoegiaa.PG
open YthaiodklfoegiaaF
attribute [local go_sem high] run_feq run_fne run_flt_lt run_flt_le run_flt_gt run_flt_ge
open Go.RowKit YthaiodklfoegiaaW.PrintWords YthaiodklfoegiaaW.PrintLast YthaiodklfoegiaaW.PrintMore
attribute [local go_sem] max2_int min2_int max_two min_two max_three min_three max_four min_four
def gatehouseref08_one.l0 : Nat → List ByteArray → Nat → List ByteArray → List (S78) → Int → List ByteArray → List (S54) → List ByteArray → List ByteArray → List ByteArray → List (S108) → List (S108) → List (S108) → List (S108) → List (S78) → List (S28) → Option ((List (S78)))
 | 0, _, _, _, _, _, _, _, _, _, _, _, _, _, _, _, _ => none
 | k + 1, x1, x2, x3, x9, x10, Yc, Yd, Ye, Yf, Yg, Yh, Yi, Yj, Yk, Zf, Yl => if x10 < (Zf.length : Int) then (if 0 ≤ x10 then ((gatehouseref08_about.f k ((rd_T78 Zf x10).f0) ((rd_T78 Zf x10).f1) ((rd_T78 Zf x10).f2) ((rd_T78 Zf x10).f3) ((rd_T78 Zf x10).f4) ((rd_T78 Zf x10).f5) x1 x2 x3).bind fun Yy => (if Yy = true then (if x9.length < 1759218604441 then (gatehouseref08_one.l0 k x1 x2 x3 (x9 ++ [(⟨(rd_T78 Zf x10).f0, (rd_T78 Zf x10).f1, (rd_T78 Zf x10).f2, (rd_T78 Zf x10).f3, (rd_T78 Zf x10).f4, (rd_T78 Zf x10).f5⟩ : S78)]) (wrap64 (x10 + 1)) Yc Yd Ye Yf Yg Yh Yi Yj Yk Zf Yl) else (none)) else (gatehouseref08_one.l0 k x1 x2 x3 x9 (wrap64 (x10 + 1)) Yc Yd Ye Yf Yg Yh Yi Yj Yk Zf Yl))) else (none)) else (some x9)
def gatehouseref08_one.f (k : Nat) (Zj : List ByteArray) (Zk : List (S54)) (Zl : List ByteArray) (Zm : List ByteArray) (Zn : List ByteArray) (Zo : List (S108)) (Zp : List (S108)) (Zq : List (S108)) (Zr : List (S108)) (Zc : List (S78)) (Zg : List (S28)) (l1 : List ByteArray) (a2 : Nat) (l3 : List ByteArray) : Option ((List (S78))) := gatehouseref08_one.l0 k l1 a2 l3 ([] : List (S78)) 0 Zj Zk Zl Zm Zn Zo Zp Zq Zr Zc Zg
theorem gatehouseref08_one.calls (k : Nat) (ZE : Option Addr) (ZF : Nat) (Zj : List ByteArray) (ZG : Option Addr) (ZH : Nat) (Zk : List (S54)) (ZI : Option Addr) (ZJ : Nat) (Zl : List ByteArray) (ZK : Option Addr) (ZL : Nat) (Zm : List ByteArray) (ZM : Option Addr) (ZN : Nat) (Zn : List ByteArray) (ZO : Option Addr) (ZP : Nat) (Zo : List (S108)) (ZQ : Option Addr) (ZR : Nat) (Zp : List (S108)) (ZS : Option Addr) (ZT : Nat) (Zq : List (S108)) (ZU : Option Addr) (ZV : Nat) (Zr : List (S108)) (Zv : Nat → Prop) (Z0 : Option Addr) (Zy : Nat) (Zc : List (S78)) (Zw : Option Addr) (Zx : Nat) (Zg : List (S28)) (A1 : Option Addr) (c1 : Nat) (l1 : List ByteArray) (a2 : Nat) (A3 : Option Addr) (c3 : Nat) (l3 : List ByteArray) (r : List (S78)) (w : World) (YJ : Kd.C Kd.string w ZE Zj.length Zj) (YK : Zj.length ≤ ZF) (YL : Kd.C k54 w ZG Zk.length Zk) (YM : Zk.length ≤ ZH) (YN : Kd.C Kd.string w ZI Zl.length Zl) (YO : Zl.length ≤ ZJ) (YP : Kd.C Kd.string w ZK Zm.length Zm) (YQ : Zm.length ≤ ZL) (YR : Kd.C Kd.string w ZM Zn.length Zn) (YS : Zn.length ≤ ZN) (YT : Kd.C k108 w ZO Zo.length Zo) (YU : Zo.length ≤ ZP) (YV : Kd.C k108 w ZQ Zp.length Zp) (YW : Zp.length ≤ ZR) (YX : Kd.C k108 w ZS Zq.length Zq) (YY : Zq.length ≤ ZT) (YZ : Kd.C k108 w ZU Zr.length Zr) (Y0 : Zr.length ≤ ZV) (Y6 : Kd.V k78 78 w w.heap.size (fun k_ => Zv k_) (.slice Z0 Zc.length Zy) Zc) (Yp : Kd.C k28 w Zw Zg.length Zg) (Yq : Zg.length ≤ Zx) (hr1 : Kd.C Kd.string w A1 l1.length l1) (hc1 : l1.length ≤ c1) (hr3 : Kd.C Kd.string w A3 l3.length l3) (hc3 : l3.length ≤ c3) (h : gatehouseref08_one.f k Zj Zk Zl Zm Zn Zo Zp Zq Zr Zc Zg l1 a2 l3 = some r) :
  Calls Try.prog 68 #[.agg #[.slice ZE Zj.length ZF, .slice ZG Zk.length ZH, .slice ZI Zl.length ZJ, .slice ZK Zm.length ZL, .slice ZM Zn.length ZN, .slice ZO Zo.length ZP, .slice ZQ Zp.length ZR, .slice ZS Zq.length ZT, .slice ZU Zr.length ZV, .slice Z0 Zc.length Zy, .slice Zw Zg.length Zx], .slice A1 l1.length c1, .float .f64 a2, .slice A3 l3.length c3] w fun e w' => ∃ v0_ : Value, e = .returned (v0_) ∧ Kd.N k78 78 w' w.heap.size (fun k_ => (Zv k_ ∨ w.heap.size ≤ k_)) v0_ r ∧ Below w.heap.size w w' := by
 have Jg := Try.underlying39
 have Jh := Try.underlying78
 have VT := jA YJ
 have VU := jA YK
 clear YJ YK
 have VV := jA YL
 have VW := jA YM
 clear YL YM
 have VX := jA YN
 have VY := jA YO
 clear YN YO
 have VZ := jA YP
 have V0 := jA YQ
 clear YP YQ
 have V1 := jA YR
 have V4 := jA YS
 clear YR YS
 have V5 := jA YT
 have V6 := jA YU
 clear YT YU
 have V7 := jA YV
 have V8 := jA YW
 clear YV YW
 have V9 := jA YX
 have Ja := jA YY
 clear YX YY
 have Jc := jA YZ
 have Jd := jA Y0
 clear YZ Y0
 have Ym := jA (show Kd.V k78 78 w w.heap.size (fun k_ => (Zv k_ ∨ w.heap.size ≤ k_)) (.slice Z0 Zc.length Zy) Zc from Kd.V_mono Y6 (fun k_ hk => .inl hk))
 have VQ := jA Yp
 have VR := jA Yq
 clear Yp Yq
 have HR1 := jA hr1
 have HC1 := jA hc1
 clear hr1 hc1
 have HR3 := jA hr3
 have HC3 := jA hc3
 clear hr3 hc3
 have HB := jA (Below.refl w.heap.size w)
 have H : (gatehouseref08_one.l0 k l1 a2 l3 ([] : List (S78)) 0 Zj Zk Zl Zm Zn Zo Zp Zq Zr Zc Zg) = some r := h
 clear h
 have H' := jA H
 clear H
 go_enter Try.func68, Try.ntmps68
 go_wp2_with (first | ((with_reducible refine gate_dst (N := 4) rfl ?_); refine box_event ?hg (N := 4) ?hd (cs := #[.slice ZE Zj.length ZF, .slice ZG Zk.length ZH, .slice ZI Zl.length ZJ, .slice ZK Zm.length ZL, .slice ZM Zn.length ZN, .slice ZO Zo.length ZP, .slice ZQ Zp.length ZR, .slice ZS Zq.length ZT, .slice ZU Zr.length ZV, .slice Z0 Zc.length Zy, .slice Zw Zg.length Zx]) (t := 39) ?hr ?_; (case hd => rfl); (case hg => rfl); (case hr => first | (go_simp; done) | (go_simp; rfl)); intro Zd hg w5 hbox hb; have n0_ := jA (Kd.V_below (Kd.V_elderB (by (with_reducible repeat (first | apply Kd.V_alloc | apply Kd.V_drewN | apply Kd.V_drew)); exact Ym.out) Zd (Nat.le_of_eq hg.symm)) hb); have n1_ := jA (below_step (by repeat (first | (with_reducible first | exact HB.out | apply below_alloc | apply pw_below_drewN | apply below_drew1) | exact HB.out)) hb); have n2_ := jA (hbox); have n3_ := jA ((by rw [hg]; exact (below_size (by repeat (first | (with_reducible first | exact HB.out | apply below_alloc | apply pw_below_drewN | apply below_drew1) | exact HB.out))) : w.heap.size ≤ Zd)); have n4_ := jA ((by rw [hg]; exact (below_size (by repeat (first | (with_reducible first | exact HB.out | apply below_alloc | apply pw_below_drewN | apply below_drew1) | exact HB.out))) : w.heap.size ≤ Zd)); clear Ym; clear HB; have Ym := n0_; have HB := n1_; have Za := n2_; have Je := n3_; have Zz := n4_; clear n0_ n1_ n2_ n3_ n4_; clear hb hbox hg))
 go_loopg [9, 10] k (fun kq v9 v10 w' => ∃ (ZD : List (S78)) (Zb : Int), v10 = .int .i64 Zb ∧ Aside0 (gatehouseref08_one.l0 kq l1 a2 l3 ZD Zb Zj Zk Zl Zm Zn Zo Zp Zq Zr Zc Zg = some r) ∧ Aside0 (kq ≤ k) ∧ Aside0 (Kd.N k78 78 w' w.heap.size (fun k_ => (Zv k_ ∨ w.heap.size ≤ k_) ∧ k_ ≠ Zd) v9 ZD) ∧ Aside0 (Kd.V k78 78 w' w.heap.size (fun k_ => (Zv k_ ∨ w.heap.size ≤ k_) ∧ some k_ ≠ (v9 : Value).ownBlock ∧ k_ ≠ Zd) (.slice Z0 Zc.length Zy) Zc) ∧ Aside0 (w'.heap[Zd]? = some (.cells #[(.slice ZE Zj.length ZF), (.slice ZG Zk.length ZH), (.slice ZI Zl.length ZJ), (.slice ZK Zm.length ZL), (.slice ZM Zn.length ZN), (.slice ZO Zo.length ZP), (.slice ZQ Zp.length ZR), (.slice ZS Zq.length ZT), (.slice ZU Zr.length ZV), (.slice Z0 Zc.length Zy), (.slice Zw Zg.length Zx)] 39 (0, 0))) ∧ Aside0 (Below w.heap.size w w'))
 case atStart => exact ⟨(([] : List (S78))), (0), (by first | rfl | (simp; done) | (simp [*]; done)), H', ⟨Nat.le_refl _⟩, ⟨by first | exact Kd.S_nil _ _ _ _ _ | exact Kd.N_nil _ _ _ _ _ | exact Kd.V_nil _ _ _ _ _ | exact Kd.Q_nil _ _ _ _ _ | exact Kd.R_nil _ _ _ _ _⟩, ⟨by (with_reducible repeat (first | apply Kd.V_alloc | apply Kd.V_drewN | apply Kd.V_drew)); exact Kd.V_mono Ym.out (fun _ hk => ⟨hk.1, ⟨(by simp [Value.ownBlock]), hk.2⟩⟩)⟩, ⟨by (with_reducible repeat (first | refine blk_drewN ?_ _ | refine blk_drew ?_ | refine blk_alloc ?_ _)); exact Za.out⟩, ⟨by repeat (first | (with_reducible first | exact HB.out | apply below_alloc | apply pw_below_drewN | apply below_drew1 | refine below_set ?_ Zz.out) | exact HB.out)⟩⟩
 case round =>
  clear H'
  try clear c1
  try clear p2
  try clear c3
  obtain ⟨ZD, Zb, rfl, HA, HK1, ZX, Ze, Za, HB⟩ := hrel
  cases gk with
  | zero => exact absurd HA.out (by simp [gatehouseref08_one.l0])
  | succ k1 =>
   have H := HA.out
   clear HA
   simp only [gatehouseref08_one.l0] at H
   by_cases c6 : Zb < (Zc.length : Int)
   ·rw [if_pos c6] at H
    have c6b0 : decide (Zb < (Zc.length : Int)) = true := decide_eq_true c6
    clear c6
    by_cases c7 : 0 ≤ Zb
    ·rw [if_pos c7] at H
     have c7b0 : decide (0 ≤ Zb) = true := decide_eq_true c7
     clear c7
     replace H := Option.bind_eq_some_iff.mp H
     obtain ⟨Yy, A80, H⟩ := H
     replace H : (if Yy = true then (if ZD.length < 1759218604441 then (gatehouseref08_one.l0 k1 l1 a2 l3 (ZD ++ [(⟨(rd_T78 Zc Zb).f0, (rd_T78 Zc Zb).f1, (rd_T78 Zc Zb).f2, (rd_T78 Zc Zb).f3, (rd_T78 Zc Zb).f4, (rd_T78 Zc Zb).f5⟩ : S78)]) (wrap64 (Zb + 1)) Zj Zk Zl Zm Zn Zo Zp Zq Zr Zc Zg) else (none)) else (gatehouseref08_one.l0 k1 l1 a2 l3 ZD (wrap64 (Zb + 1)) Zj Zk Zl Zm Zn Zo Zp Zq Zr Zc Zg)) = some r := H
     have A8 := jA A80
     clear A80
     by_cases c9 : Yy = true
     ·subst c9
      have H1 : (if ZD.length < 1759218604441 then (gatehouseref08_one.l0 k1 l1 a2 l3 (ZD ++ [(⟨(rd_T78 Zc Zb).f0, (rd_T78 Zc Zb).f1, (rd_T78 Zc Zb).f2, (rd_T78 Zc Zb).f3, (rd_T78 Zc Zb).f4, (rd_T78 Zc Zb).f5⟩ : S78)]) (wrap64 (Zb + 1)) Zj Zk Zl Zm Zn Zo Zp Zq Zr Zc Zg) else (none)) = some r := by rw [if_pos rfl] at H; exact H
      clear H
      have H := H1
      clear H1
      by_cases c10 : ZD.length < 1759218604441
      ·rw [if_pos c10] at H
       have Y7 := jA c10
       clear c10
       obtain ⟨Y8, Z7⟩ : ∃ y_ : List (S78), y_ = (ZD ++ [(⟨(rd_T78 Zc Zb).f0, (rd_T78 Zc Zb).f1, (rd_T78 Zc Zb).f2, (rd_T78 Zc Zb).f3, (rd_T78 Zc Zb).f4, (rd_T78 Zc Zb).f5⟩ : S78)]) := ⟨_, rfl⟩
       replace H : (gatehouseref08_one.l0 k1 l1 a2 l3 Y8 (wrap64 (Zb + 1)) Zj Zk Zl Zm Zn Zo Zp Zq Zr Zc Zg) = some r := by first | (rw [Z7]; with_reducible exact H) | (have H2_ := (Option.bind_some _ _).symm.trans H; rw [Z7]; with_reducible exact H2_) | (have H2_ := (Option.bind_some _ _).symm.trans H; with_reducible exact H2_) | with_reducible exact H | (rw [Z7]; exact H) | exact H
       have Y9 := jA Z7
       clear Z7
       have H' := jA H
       clear H
       have Xl : wr.cell? ⟨Zd, 0, none⟩ = some (.slice ZE Zj.length ZF) := (blk_cell Za.out 0).trans rfl
       have Xm : wr.cell? ⟨Zd, 1, none⟩ = some (.slice ZG Zk.length ZH) := (blk_cell Za.out 1).trans rfl
       have Xn : wr.cell? ⟨Zd, 2, none⟩ = some (.slice ZI Zl.length ZJ) := (blk_cell Za.out 2).trans rfl
       have Xo : wr.cell? ⟨Zd, 3, none⟩ = some (.slice ZK Zm.length ZL) := (blk_cell Za.out 3).trans rfl
       have Xp : wr.cell? ⟨Zd, 4, none⟩ = some (.slice ZM Zn.length ZN) := (blk_cell Za.out 4).trans rfl
       have Xq : wr.cell? ⟨Zd, 5, none⟩ = some (.slice ZO Zo.length ZP) := (blk_cell Za.out 5).trans rfl
       have Xr : wr.cell? ⟨Zd, 6, none⟩ = some (.slice ZQ Zp.length ZR) := (blk_cell Za.out 6).trans rfl
       have Xs : wr.cell? ⟨Zd, 7, none⟩ = some (.slice ZS Zq.length ZT) := (blk_cell Za.out 7).trans rfl
       have Xt : wr.cell? ⟨Zd, 8, none⟩ = some (.slice ZU Zr.length ZV) := (blk_cell Za.out 8).trans rfl
       have Xu : wr.cell? ⟨Zd, 9, none⟩ = some (.slice Z0 Zc.length Zy) := (blk_cell Za.out 9).trans rfl
       have Xa : wr.cell? ⟨Zd, 10, none⟩ = some (.slice Zw Zg.length Zx) := (blk_cell Za.out 10).trans rfl
       have Xv := blk_frozen Za.out 0
       have Xw := blk_frozen Za.out 1
       have Xx := blk_frozen Za.out 2
       have Xy := blk_frozen Za.out 3
       have Xz := blk_frozen Za.out 4
       have XA := blk_frozen Za.out 5
       have XB := blk_frozen Za.out 6
       have XC := blk_frozen Za.out 7
       have XD := blk_frozen Za.out 8
       have XE := blk_frozen Za.out 9
       have Xb := blk_frozen Za.out 10
       have Z1 : 0 ≤ (Zb : Int) := of_decide_eq_true (by first | (with_reducible assumption) | assumption)
       have Z2 : Zb < (Zc.length : Int) := of_decide_eq_true (by first | (with_reducible assumption) | assumption)
       obtain ⟨ZY, Z8, Z9, Y1, Yz, YA, YB, Z3, YC, YD, ZA, ZB⟩ := at_T78 (Kd.V_reads' Ze.out).2.2 Zb Z1 Z2
       cases Y1
       obtain ⟨Xc, Ya, Yb, ZZ⟩ := Kd.V_get Ze.out z78 Zb Z1 (by first | exact Z2 | exact of_decide_eq_true (by first | (with_reducible assumption) | assumption) | (have e_ := (Kd.V_reads' Ze.out).1; omega))
       obtain ⟨YE, YF, rfl, Zt, Zu⟩ := k78_openF Yb
       have Zs := ZZ 3 _ rfl
       rw [add_field _ _ 3 (by omega)] at Zs
       replace Zs := Option.some.inj (Zs.symm.trans Z3)
       injection Zs with hva_ hvn_ hvc_
       rw [hva_] at Zu
       rw [hvc_] at Zt
       have Zi := jA (show Kd.V Kd.string 9 _ w.heap.size _ _ ((rd_T78 Zc Zb).f3) from Kd.V_mk Zt Zu)
       clear hva_ hvn_ hvc_ Zu Zt
       clear ZZ Ya
       have Zh := jA ZB
       have Z4 := jA ZA
       clear ZB ZA
       replace Z1 := eq_true Z1
       replace Z2 := eq_true Z2
       go_wp2_with (first | ((with_reducible refine gate_callee (f := 80) rfl ?_); refine goesL_ (some 27) rfl rfl Try.func80 (by kernel_rfl) rfl #[.agg #[.bool ((rd_T78 Zc Zb).f0), .string ((rd_T78 Zc Zb).f1), .string ((rd_T78 Zc Zb).f2), .slice Z8 ((rd_T78 Zc Zb).f3).length Z9, .int .i8 ((rd_T78 Zc Zb).f4), .float .f64 ((rd_T78 Zc Zb).f5)], .slice A1 l1.length c1, .float .f64 a2, .slice A3 l3.length c3] rfl (by (try simp only [List.map_toArray, List.map_cons, List.map_nil]); first | done | rfl | (simp only [List.length_drop, List.length_take]; rfl)) ?_; (with_reducible refine (gatehouseref08_about.calls k1 ((rd_T78 Zc Zb).f0) ((rd_T78 Zc Zb).f1) ((rd_T78 Zc Zb).f2) _ _ ((rd_T78 Zc Zb).f3) ((rd_T78 Zc Zb).f4) ((rd_T78 Zc Zb).f5) _ _ l1 a2 _ _ l3 true _ ?Yr ?Ys ?Yt ?Yu ?Yv ?Yw A8.out).mono ?_); (case Yr => repeat (first | exact (by repeat (first | (with_reducible exact Zh.out) | (with_reducible refine Kd.C_alloc ?_ _) | (with_reducible refine Kd.C_drewN ?_ _) | (with_reducible refine Kd.C_drew ?_) | exact Zh.out)) | (with_reducible refine Kd.C_alloc ?_ _) | (with_reducible refine Kd.C_drewN ?_ _) | (with_reducible refine Kd.C_drew ?_))); (case Ys => exact Z4.out); (case Yt => repeat (first | exact (Kd.C_below HR1.out HB.out) | (with_reducible refine Kd.C_alloc ?_ _) | (with_reducible refine Kd.C_drewN ?_ _) | (with_reducible refine Kd.C_drew ?_))); (case Yu => exact HC1.out); (case Yv => repeat (first | exact (Kd.C_below HR3.out HB.out) | (with_reducible refine Kd.C_alloc ?_ _) | (with_reducible refine Kd.C_drewN ?_ _) | (with_reducible refine Kd.C_drew ?_))); (case Yw => exact HC3.out); rintro e w12 ⟨rfl, hb⟩; refine ⟨_, rfl, ?_⟩; have n0_ := jA (Kd.N_below (by (with_reducible repeat (first | apply Kd.N_alloc | apply Kd.N_drewN | apply Kd.N_drew)); exact ZX.out) hb); have n1_ := jA (Kd.V_below (by (with_reducible repeat (first | apply Kd.V_alloc | apply Kd.V_drewN | apply Kd.V_drew)); exact Ze.out) hb); have n2_ := jA (Kd.V_below (by (with_reducible repeat (first | apply Kd.V_alloc | apply Kd.V_drewN | apply Kd.V_drew)); exact Zi.out) hb); have n3_ := jA (blk_below (g := Zd) (o := .cells #[.slice ZE Zj.length ZF, .slice ZG Zk.length ZH, .slice ZI Zl.length ZJ, .slice ZK Zm.length ZL, .slice ZM Zn.length ZN, .slice ZO Zo.length ZP, .slice ZQ Zp.length ZR, .slice ZS Zq.length ZT, .slice ZU Zr.length ZV, .slice (some ZY) Zc.length Zy, .slice Zw Zg.length Zx] 39 (0, 0)) (by (with_reducible repeat (first | refine blk_drewN ?_ _ | refine blk_drew ?_ | refine blk_alloc ?_ _)); exact Za.out) hb); have n4_ := jA (Kd.C_below (by repeat (first | (with_reducible exact Zh.out) | (with_reducible refine Kd.C_alloc ?_ _) | (with_reducible refine Kd.C_drewN ?_ _) | (with_reducible refine Kd.C_drew ?_) | exact Zh.out)) hb); have n5_ := jA (below_step (by repeat (first | (with_reducible first | exact HB.out | apply below_alloc | apply pw_below_drewN | apply below_drew1 | refine below_set ?_ Zz.out) | exact HB.out)) hb); clear ZX; clear Ze; clear Zi; clear Za; clear Zh; clear HB; have ZX := n0_; have Ze := n1_; have Zi := n2_; have Za := n3_; have Zh := n4_; have HB := n5_; clear n0_ n1_ n2_ n3_ n4_ n5_; (try clear hb); (try clear hb2); (try clear hk); (try clear hi); have XF : w12.cell? ⟨Zd, 0, none⟩ = some (.slice ZE Zj.length ZF) := (blk_cell Za.out 0).trans rfl; have XG : w12.cell? ⟨Zd, 1, none⟩ = some (.slice ZG Zk.length ZH) := (blk_cell Za.out 1).trans rfl; have XH : w12.cell? ⟨Zd, 2, none⟩ = some (.slice ZI Zl.length ZJ) := (blk_cell Za.out 2).trans rfl; have XI : w12.cell? ⟨Zd, 3, none⟩ = some (.slice ZK Zm.length ZL) := (blk_cell Za.out 3).trans rfl; have XJ : w12.cell? ⟨Zd, 4, none⟩ = some (.slice ZM Zn.length ZN) := (blk_cell Za.out 4).trans rfl; have XK : w12.cell? ⟨Zd, 5, none⟩ = some (.slice ZO Zo.length ZP) := (blk_cell Za.out 5).trans rfl; have XL : w12.cell? ⟨Zd, 6, none⟩ = some (.slice ZQ Zp.length ZR) := (blk_cell Za.out 6).trans rfl; have XM : w12.cell? ⟨Zd, 7, none⟩ = some (.slice ZS Zq.length ZT) := (blk_cell Za.out 7).trans rfl; have XN : w12.cell? ⟨Zd, 8, none⟩ = some (.slice ZU Zr.length ZV) := (blk_cell Za.out 8).trans rfl; have XO : w12.cell? ⟨Zd, 9, none⟩ = some (.slice (some ZY) Zc.length Zy) := (blk_cell Za.out 9).trans rfl; have Xd : w12.cell? ⟨Zd, 10, none⟩ = some (.slice Zw Zg.length Zx) := (blk_cell Za.out 10).trans rfl; have XP := blk_frozen Za.out 0; have XQ := blk_frozen Za.out 1; have XR := blk_frozen Za.out 2; have XS := blk_frozen Za.out 3; have XT := blk_frozen Za.out 4; have XU := blk_frozen Za.out 5; have XV := blk_frozen Za.out 6; have XW := blk_frozen Za.out 7; have XX := blk_frozen Za.out 8; have XY := blk_frozen Za.out 9; have Xe := blk_frozen Za.out 10; have YG : 0 ≤ (Zb : Int) := of_decide_eq_true (by first | (with_reducible assumption) | assumption); have YH : Zb < (Zc.length : Int) := of_decide_eq_true (by first | (with_reducible assumption) | assumption); obtain ⟨Xf, Y2, Y3, VS, XZ, X0, X5, YI, X6, X7, Yn, Yo⟩ := at_T78 (Kd.V_reads' Ze.out).2.2 Zb YG YH; obtain rfl : ZY = Xf := (by injection VS); obtain ⟨Jf, Y4, Y5, Yx⟩ := Kd.V_get Ze.out z78 Zb YG (by first | exact YH | exact of_decide_eq_true (by first | (with_reducible assumption) | assumption) | (have e_ := (Kd.V_reads' Ze.out).1; omega)); obtain ⟨X8, X9, rfl, Z5, Z6⟩ := k78_openF Y5; have ZW := Yx 3 _ rfl; rw [add_field _ _ 3 (by omega)] at ZW; replace ZW := Option.some.inj (ZW.symm.trans YI); injection ZW with hva_ hvn_ hvc_; rw [hva_] at Z6; rw [hvc_] at Z5; have ZC := jA (show Kd.V Kd.string 9 _ w.heap.size _ _ ((rd_T78 Zc Zb).f3) from Kd.V_mk Z5 Z6); clear hva_ hvn_ hvc_ Z6 Z5; clear Yx Y4; have Va := jA Yo; have Vb := jA Yn; clear Yo Yn; replace YG := eq_true YG; replace YH := eq_true YH) | ((with_reducible refine gate_builtin (b := .append) (xs := #[.tmp 29, .tmp 35]) rfl ?_); at_builtin; refine Kd.N_append k78 (w0 := w) w.heap.size rfl (.tmp 29) (.tmp 35) 36 78 (.agg #[(.bool false), (.string ⟨#[]⟩), (.string ⟨#[]⟩), (.slice none 0 0), (.int .i8 0), (.float .f64 0)]) 80 rfl Try.underlying36 info78 rfl (by decide) (by omega) u9 ZD (⟨(rd_T78 Zc Zb).f0, (rd_T78 Zc Zb).f1, (rd_T78 Zc Zb).f2, (rd_T78 Zc Zb).f3, (rd_T78 Zc Zb).f4, (rd_T78 Zc Zb).f5⟩ : S78) [.bool ((rd_T78 Zc Zb).f0), .string ((rd_T78 Zc Zb).f1), .string ((rd_T78 Zc Zb).f2), .slice Y2 ((rd_T78 Zc Zb).f3).length Y3, .int .i8 ((rd_T78 Zc Zb).f4), .float .f64 ((rd_T78 Zc Zb).f5)] (fun k_ => (Zv k_ ∨ w.heap.size ≤ k_) ∧ k_ ≠ Zd) (fun k_ => ((fun k_ => (Zv k_ ∨ w.heap.size ≤ k_) ∧ k_ ≠ Zd)) k_ ∧ some k_ ≠ (u9 : Value).ownBlock) rfl rfl ?aP (fun _ hk => hk) ?aF ?aO ?aB ?aS ?aL ?_; (case aP => exact (k78_mkF _ _ (⟨(rd_T78 Zc Zb).f0, (rd_T78 Zc Zb).f1, (rd_T78 Zc Zb).f2, (rd_T78 Zc Zb).f3, (rd_T78 Zc Zb).f4, (rd_T78 Zc Zb).f5⟩ : S78) (Kd.V_reads' (Kd.V_mono (ok' := (fun k_ => ((fun k_ => (Zv k_ ∨ w.heap.size ≤ k_) ∧ k_ ≠ Zd)) k_ ∧ some k_ ≠ (u9 : Value).ownBlock)) (ZC.out) (fun k_ hk => ⟨⟨hk.1, hk.2.2⟩, hk.2.1⟩))).2.1 (Kd.V_F (Kd.V_mono (ok' := (fun k_ => ((fun k_ => (Zv k_ ∨ w.heap.size ≤ k_) ∧ k_ ≠ Zd)) k_ ∧ some k_ ≠ (u9 : Value).ownBlock)) (ZC.out) (fun k_ hk => ⟨⟨hk.1, hk.2.2⟩, hk.2.1⟩))))); (case aB => exact (by repeat (first | (with_reducible first | exact HB.out | apply below_alloc | apply pw_below_drewN | apply below_drew1 | refine below_set ?_ Zz.out) | exact HB.out))); (case aF => exact (fun k_ hk => ⟨(.inr (Nat.le_trans (below_size (by repeat (first | (with_reducible first | exact HB.out | apply below_alloc | apply pw_below_drewN | apply below_drew1 | refine below_set ?_ Zz.out) | exact HB.out))) hk)), Kd.freshB (g := Zd) (o := .cells #[.slice ZE Zj.length ZF, .slice ZG Zk.length ZH, .slice ZI Zl.length ZJ, .slice ZK Zm.length ZL, .slice ZM Zn.length ZN, .slice ZO Zo.length ZP, .slice ZQ Zp.length ZR, .slice ZS Zq.length ZT, .slice ZU Zr.length ZV, .slice (some ZY) Zc.length Zy, .slice Zw Zg.length Zx] 39 (0, 0)) (by (with_reducible repeat (first | refine blk_drewN ?_ _ | refine blk_drew ?_ | refine blk_alloc ?_ _)); exact Za.out) k_ hk⟩)); (case aO => exact (by (with_reducible repeat (first | apply Kd.N_alloc | apply Kd.N_drewN | apply Kd.N_drew)); exact ZX.out)); (case aS => exact (below_size (by repeat (first | (with_reducible first | exact HB.out | apply below_alloc | apply pw_below_drewN | apply below_drew1 | refine below_set ?_ Zz.out) | exact HB.out)))); (case aL => have := Y7.out; omega); intro Ji w14 ho hb hg hat; rw [← Y9.out] at ho; have n0_ := jA (Kd.V_afterv (ok := (fun k_ => (Zv k_ ∨ w.heap.size ≤ k_) ∧ k_ ≠ Zd)) (by (with_reducible repeat (first | apply Kd.V_alloc | apply Kd.V_drewN | apply Kd.V_drew)); exact Kd.V_mono Ze.out (fun _ hk => ⟨⟨hk.1, hk.2.2⟩, hk.2.1⟩)) hg hat); have n1_ := jA (blk_grown (g := Zd) (o := .cells #[.slice ZE Zj.length ZF, .slice ZG Zk.length ZH, .slice ZI Zl.length ZJ, .slice ZK Zm.length ZL, .slice ZM Zn.length ZN, .slice ZO Zo.length ZP, .slice ZQ Zp.length ZR, .slice ZS Zq.length ZT, .slice ZU Zr.length ZV, .slice (some ZY) Zc.length Zy, .slice Zw Zg.length Zx] 39 (0, 0)) (by (with_reducible repeat (first | refine blk_drewN ?_ _ | refine blk_drew ?_ | refine blk_alloc ?_ _)); exact Za.out) hg (Kd.N_ne ZX.out Za.out (by decide))); have n2_ := jA (Kd.V_afterv (ok := (fun k_ => (Zv k_ ∨ w.heap.size ≤ k_) ∧ k_ ≠ Zd)) (by (with_reducible repeat (first | apply Kd.V_alloc | apply Kd.V_drewN | apply Kd.V_drew)); exact Kd.V_mono Zi.out (fun _ hk => ⟨⟨hk.1, hk.2.2⟩, hk.2.1⟩)) hg hat); have n3_ := jA (Kd.V_afterv (ok := (fun k_ => (Zv k_ ∨ w.heap.size ≤ k_) ∧ k_ ≠ Zd)) (by (with_reducible repeat (first | apply Kd.V_alloc | apply Kd.V_drewN | apply Kd.V_drew)); exact Kd.V_mono ZC.out (fun _ hk => ⟨⟨hk.1, hk.2.2⟩, hk.2.1⟩)) hg hat); have n4_ := jA (hb); have n5_ := jA (ho); clear Ze; clear Za; clear Zi; clear ZC; clear HB; clear ZX; have Ze := n0_; have Za := n1_; have Zi := n2_; have ZC := n3_; have HB := n4_; have Xg := n5_; clear n0_ n1_ n2_ n3_ n4_ n5_; clear ho hb hg hat))
       go_roundg k1
       case measure => have := HK1.out; omega
       case rel => exact ⟨(Y8), (wrap64 (Zb + 1)), (by first | rfl | (simp; done) | (simp [*]; done)), H', ⟨by have := HK1.out; omega⟩, ⟨by (with_reducible repeat (first | apply Kd.N_alloc | apply Kd.N_drewN | apply Kd.N_drew)); exact Xg.out⟩, ⟨by (with_reducible repeat (first | apply Kd.V_alloc | apply Kd.V_drewN | apply Kd.V_drew)); exact Kd.V_mono Ze.out (fun _ hk => ⟨hk.1.1, ⟨hk.2, hk.1.2⟩⟩)⟩, ⟨by (with_reducible repeat (first | refine blk_drewN ?_ _ | refine blk_drew ?_ | refine blk_alloc ?_ _)); exact Za.out⟩, ⟨by repeat (first | (with_reducible first | exact HB.out | apply below_alloc | apply pw_below_drewN | apply below_drew1 | refine below_set ?_ Zz.out) | exact HB.out)⟩⟩
      ·rw [if_neg c10] at H
       exact absurd H (by simp)
     ·replace c9 := Bool.eq_false_iff.mpr c9
      subst c9
      have H1 : (gatehouseref08_one.l0 k1 l1 a2 l3 ZD (wrap64 (Zb + 1)) Zj Zk Zl Zm Zn Zo Zp Zq Zr Zc Zg) = some r := by rw [if_neg (show ¬ (false = true) by decide)] at H; exact H
      clear H
      have H := H1
      clear H1
      have H' := jA H
      clear H
      have Vc : wr.cell? ⟨Zd, 0, none⟩ = some (.slice ZE Zj.length ZF) := (blk_cell Za.out 0).trans rfl
      have Vd : wr.cell? ⟨Zd, 1, none⟩ = some (.slice ZG Zk.length ZH) := (blk_cell Za.out 1).trans rfl
      have Ve : wr.cell? ⟨Zd, 2, none⟩ = some (.slice ZI Zl.length ZJ) := (blk_cell Za.out 2).trans rfl
      have Vf : wr.cell? ⟨Zd, 3, none⟩ = some (.slice ZK Zm.length ZL) := (blk_cell Za.out 3).trans rfl
      have Vg : wr.cell? ⟨Zd, 4, none⟩ = some (.slice ZM Zn.length ZN) := (blk_cell Za.out 4).trans rfl
      have Vh : wr.cell? ⟨Zd, 5, none⟩ = some (.slice ZO Zo.length ZP) := (blk_cell Za.out 5).trans rfl
      have Vi : wr.cell? ⟨Zd, 6, none⟩ = some (.slice ZQ Zp.length ZR) := (blk_cell Za.out 6).trans rfl
      have Vj : wr.cell? ⟨Zd, 7, none⟩ = some (.slice ZS Zq.length ZT) := (blk_cell Za.out 7).trans rfl
      have Vk : wr.cell? ⟨Zd, 8, none⟩ = some (.slice ZU Zr.length ZV) := (blk_cell Za.out 8).trans rfl
      have Vl : wr.cell? ⟨Zd, 9, none⟩ = some (.slice Z0 Zc.length Zy) := (blk_cell Za.out 9).trans rfl
      have Xh : wr.cell? ⟨Zd, 10, none⟩ = some (.slice Zw Zg.length Zx) := (blk_cell Za.out 10).trans rfl
      have Vm := blk_frozen Za.out 0
      have Vn := blk_frozen Za.out 1
      have Vo := blk_frozen Za.out 2
      have Vp := blk_frozen Za.out 3
      have Vq := blk_frozen Za.out 4
      have Vr := blk_frozen Za.out 5
      have Vs := blk_frozen Za.out 6
      have Vt := blk_frozen Za.out 7
      have Vu := blk_frozen Za.out 8
      have Vv := blk_frozen Za.out 9
      have Xi := blk_frozen Za.out 10
      have Z1 : 0 ≤ (Zb : Int) := of_decide_eq_true (by first | (with_reducible assumption) | assumption)
      have Z2 : Zb < (Zc.length : Int) := of_decide_eq_true (by first | (with_reducible assumption) | assumption)
      obtain ⟨ZY, Z8, Z9, Y1, Yz, YA, YB, Z3, YC, YD, ZA, ZB⟩ := at_T78 (Kd.V_reads' Ze.out).2.2 Zb Z1 Z2
      cases Y1
      obtain ⟨Xc, Ya, Yb, ZZ⟩ := Kd.V_get Ze.out z78 Zb Z1 (by first | exact Z2 | exact of_decide_eq_true (by first | (with_reducible assumption) | assumption) | (have e_ := (Kd.V_reads' Ze.out).1; omega))
      obtain ⟨YE, YF, rfl, Zt, Zu⟩ := k78_openF Yb
      have Zs := ZZ 3 _ rfl
      rw [add_field _ _ 3 (by omega)] at Zs
      replace Zs := Option.some.inj (Zs.symm.trans Z3)
      injection Zs with hva_ hvn_ hvc_
      rw [hva_] at Zu
      rw [hvc_] at Zt
      have Zi := jA (show Kd.V Kd.string 9 _ w.heap.size _ _ ((rd_T78 Zc Zb).f3) from Kd.V_mk Zt Zu)
      clear hva_ hvn_ hvc_ Zu Zt
      clear ZZ Ya
      have Zh := jA ZB
      have Z4 := jA ZA
      clear ZB ZA
      replace Z1 := eq_true Z1
      replace Z2 := eq_true Z2
      go_wp2_with (first | ((with_reducible refine gate_callee (f := 80) rfl ?_); refine goesL_ (some 27) rfl rfl Try.func80 (by kernel_rfl) rfl #[.agg #[.bool ((rd_T78 Zc Zb).f0), .string ((rd_T78 Zc Zb).f1), .string ((rd_T78 Zc Zb).f2), .slice Z8 ((rd_T78 Zc Zb).f3).length Z9, .int .i8 ((rd_T78 Zc Zb).f4), .float .f64 ((rd_T78 Zc Zb).f5)], .slice A1 l1.length c1, .float .f64 a2, .slice A3 l3.length c3] rfl (by (try simp only [List.map_toArray, List.map_cons, List.map_nil]); first | done | rfl | (simp only [List.length_drop, List.length_take]; rfl)) ?_; (with_reducible refine (gatehouseref08_about.calls k1 ((rd_T78 Zc Zb).f0) ((rd_T78 Zc Zb).f1) ((rd_T78 Zc Zb).f2) _ _ ((rd_T78 Zc Zb).f3) ((rd_T78 Zc Zb).f4) ((rd_T78 Zc Zb).f5) _ _ l1 a2 _ _ l3 false _ ?Yr ?Ys ?Yt ?Yu ?Yv ?Yw A8.out).mono ?_); (case Yr => repeat (first | exact (by repeat (first | (with_reducible exact Zh.out) | (with_reducible refine Kd.C_alloc ?_ _) | (with_reducible refine Kd.C_drewN ?_ _) | (with_reducible refine Kd.C_drew ?_) | exact Zh.out)) | (with_reducible refine Kd.C_alloc ?_ _) | (with_reducible refine Kd.C_drewN ?_ _) | (with_reducible refine Kd.C_drew ?_))); (case Ys => exact Z4.out); (case Yt => repeat (first | exact (Kd.C_below HR1.out HB.out) | (with_reducible refine Kd.C_alloc ?_ _) | (with_reducible refine Kd.C_drewN ?_ _) | (with_reducible refine Kd.C_drew ?_))); (case Yu => exact HC1.out); (case Yv => repeat (first | exact (Kd.C_below HR3.out HB.out) | (with_reducible refine Kd.C_alloc ?_ _) | (with_reducible refine Kd.C_drewN ?_ _) | (with_reducible refine Kd.C_drew ?_))); (case Yw => exact HC3.out); rintro e w16 ⟨rfl, hb⟩; refine ⟨_, rfl, ?_⟩; have n0_ := jA (Kd.N_below (by (with_reducible repeat (first | apply Kd.N_alloc | apply Kd.N_drewN | apply Kd.N_drew)); exact ZX.out) hb); have n1_ := jA (Kd.V_below (by (with_reducible repeat (first | apply Kd.V_alloc | apply Kd.V_drewN | apply Kd.V_drew)); exact Ze.out) hb); have n2_ := jA (Kd.V_below (by (with_reducible repeat (first | apply Kd.V_alloc | apply Kd.V_drewN | apply Kd.V_drew)); exact Zi.out) hb); have n3_ := jA (blk_below (g := Zd) (o := .cells #[.slice ZE Zj.length ZF, .slice ZG Zk.length ZH, .slice ZI Zl.length ZJ, .slice ZK Zm.length ZL, .slice ZM Zn.length ZN, .slice ZO Zo.length ZP, .slice ZQ Zp.length ZR, .slice ZS Zq.length ZT, .slice ZU Zr.length ZV, .slice (some ZY) Zc.length Zy, .slice Zw Zg.length Zx] 39 (0, 0)) (by (with_reducible repeat (first | refine blk_drewN ?_ _ | refine blk_drew ?_ | refine blk_alloc ?_ _)); exact Za.out) hb); have n4_ := jA (Kd.C_below (by repeat (first | (with_reducible exact Zh.out) | (with_reducible refine Kd.C_alloc ?_ _) | (with_reducible refine Kd.C_drewN ?_ _) | (with_reducible refine Kd.C_drew ?_) | exact Zh.out)) hb); have n5_ := jA (below_step (by repeat (first | (with_reducible first | exact HB.out | apply below_alloc | apply pw_below_drewN | apply below_drew1 | refine below_set ?_ Zz.out) | exact HB.out)) hb); clear ZX; clear Ze; clear Zi; clear Za; clear Zh; clear HB; have ZX := n0_; have Ze := n1_; have Zi := n2_; have Za := n3_; have Zh := n4_; have HB := n5_; clear n0_ n1_ n2_ n3_ n4_ n5_; (try clear hb); (try clear hb2); (try clear hk); (try clear hi)))
      go_roundg k1
      case measure => have := HK1.out; omega
      case rel => exact ⟨(ZD), (wrap64 (Zb + 1)), (by first | rfl | (simp; done) | (simp [*]; done)), H', ⟨by have := HK1.out; omega⟩, ⟨by (with_reducible repeat (first | apply Kd.N_alloc | apply Kd.N_drewN | apply Kd.N_drew)); exact ZX.out⟩, ⟨by (with_reducible repeat (first | apply Kd.V_alloc | apply Kd.V_drewN | apply Kd.V_drew)); exact Ze.out⟩, ⟨by (with_reducible repeat (first | refine blk_drewN ?_ _ | refine blk_drew ?_ | refine blk_alloc ?_ _)); exact Za.out⟩, ⟨by repeat (first | (with_reducible first | exact HB.out | apply below_alloc | apply pw_below_drewN | apply below_drew1 | refine below_set ?_ Zz.out) | exact HB.out)⟩⟩
    ·rw [if_neg c7] at H
     exact absurd H (by simp)
   ·rw [if_neg c6] at H
    have c6b0 : decide (Zb < (Zc.length : Int)) = false := decide_eq_false c6
    clear c6
    obtain rfl := Option.some.inj H
    have Vw : wr.cell? ⟨Zd, 0, none⟩ = some (.slice ZE Zj.length ZF) := (blk_cell Za.out 0).trans rfl
    have Vx : wr.cell? ⟨Zd, 1, none⟩ = some (.slice ZG Zk.length ZH) := (blk_cell Za.out 1).trans rfl
    have Vy : wr.cell? ⟨Zd, 2, none⟩ = some (.slice ZI Zl.length ZJ) := (blk_cell Za.out 2).trans rfl
    have Vz : wr.cell? ⟨Zd, 3, none⟩ = some (.slice ZK Zm.length ZL) := (blk_cell Za.out 3).trans rfl
    have VA : wr.cell? ⟨Zd, 4, none⟩ = some (.slice ZM Zn.length ZN) := (blk_cell Za.out 4).trans rfl
    have VB : wr.cell? ⟨Zd, 5, none⟩ = some (.slice ZO Zo.length ZP) := (blk_cell Za.out 5).trans rfl
    have VC : wr.cell? ⟨Zd, 6, none⟩ = some (.slice ZQ Zp.length ZR) := (blk_cell Za.out 6).trans rfl
    have VD : wr.cell? ⟨Zd, 7, none⟩ = some (.slice ZS Zq.length ZT) := (blk_cell Za.out 7).trans rfl
    have VE : wr.cell? ⟨Zd, 8, none⟩ = some (.slice ZU Zr.length ZV) := (blk_cell Za.out 8).trans rfl
    have VF : wr.cell? ⟨Zd, 9, none⟩ = some (.slice Z0 Zc.length Zy) := (blk_cell Za.out 9).trans rfl
    have Xj : wr.cell? ⟨Zd, 10, none⟩ = some (.slice Zw Zg.length Zx) := (blk_cell Za.out 10).trans rfl
    have VG := blk_frozen Za.out 0
    have VH := blk_frozen Za.out 1
    have VI := blk_frozen Za.out 2
    have VJ := blk_frozen Za.out 3
    have VK := blk_frozen Za.out 4
    have VL := blk_frozen Za.out 5
    have VM := blk_frozen Za.out 6
    have VN := blk_frozen Za.out 7
    have VO := blk_frozen Za.out 8
    have VP := blk_frozen Za.out 9
    have Xk := blk_frozen Za.out 10
    go_wp2
    go_ret
    exact ⟨_, by first | rfl | (simp [errW_none, errW_some] <;> rfl) | (simp [*, errW_none, errW_some] <;> rfl), by (with_reducible repeat (first | apply Kd.N_alloc | apply Kd.N_drewN | apply Kd.N_drew)); exact Kd.N_mono ZX.out (fun _ hk => hk.1), by repeat (first | (with_reducible first | exact HB.out | apply below_alloc | apply pw_below_drewN | apply below_drew1 | refine below_set ?_ Zz.out) | exact HB.out)⟩
end Go.Proofs.Ythaiodklfoegiaa.PG
namespace Go.Proofs.Ythaiodklfoegiaa.PG
open YthaiodklfoegiaaF
attribute [local go_sem high] run_feq run_fne run_flt_lt run_flt_le run_flt_gt run_flt_ge
open Go.RowKit YthaiodklfoegiaaW.PrintWords YthaiodklfoegiaaW.PrintLast YthaiodklfoegiaaW.PrintMore
attribute [local go_sem] max2_int min2_int max_two min_two max_three min_three max_four min_four
theorem eqA28 (d : Nat) (w : World) (x0 y0 : ByteArray) (x1 y1 : ByteArray) (x2 y2 : ByteArray) :
  (Op.equalIn (d + 2) 28 (.agg #[.string x0, .string x1, .string x2]) (.agg #[.string y0, .string y1, .string y2])).run Try.prog w = .ok (x0.toList == y0.toList && (x1.toList == y1.toList && (x2.toList == y2.toList))) w := by
 refine eqA_of Try.underlying28 (by kernel_rfl) ?_
 refine eqf_cons (by rfl) (by go_simp; rfl) (by go_simp; rfl) (by go_simp) ?_
 refine eqf_cons (by rfl) (by go_simp; rfl) (by go_simp; rfl) (by go_simp) ?_
 exact eqf_last (by rfl) (by go_simp; rfl) (by go_simp; rfl) (by go_simp)
end Go.Proofs.Ythaiodklfoegiaa.PG
namespace Go.Proofs.Ythaiodklfoegiaa.PG
open YthaiodklfoegiaaF
attribute [local go_sem high] run_feq run_fne run_flt_lt run_flt_le run_flt_gt run_flt_ge
open Go.RowKit YthaiodklfoegiaaW.PrintWords YthaiodklfoegiaaW.PrintLast YthaiodklfoegiaaW.PrintMore
attribute [local go_sem] max2_int min2_int max_two min_two max_three min_three max_four min_four
attribute [local go_sem high] eqA28
def gatehouseref08_excepted.l0 : Nat → Int → List ByteArray → List (S54) → List ByteArray → List ByteArray → List ByteArray → List (S108) → List (S108) → List (S108) → List (S108) → List (S78) → List (S28) → ByteArray → ByteArray → ByteArray → Option (Bool)
 | 0, _, _, _, _, _, _, _, _, _, _, _, _, _, _, _ => none
 | k + 1, x5, Z5, Z6, Z7, Z8, Z9, Ya, Yb, Yc, Yd, Ye, ZV, ZZ, Z0, Z1 => if x5 < (ZV.length : Int) then (if 0 ≤ x5 then (if ((((rd_T28 ZV x5).f0).toList) == ZZ.toList && ((((rd_T28 ZV x5).f1).toList) == Z0.toList && ((((rd_T28 ZV x5).f2).toList) == Z1.toList))) = true then (some true) else (gatehouseref08_excepted.l0 k (wrap64 (x5 + 1)) Z5 Z6 Z7 Z8 Z9 Ya Yb Yc Yd Ye ZV ZZ Z0 Z1)) else (none)) else (some false)
def gatehouseref08_excepted.f (k : Nat) (Zi : List ByteArray) (Zj : List (S54)) (Zk : List ByteArray) (Zl : List ByteArray) (Zm : List ByteArray) (Zn : List (S108)) (Zo : List (S108)) (Zp : List (S108)) (Zq : List (S108)) (Zr : List (S78)) (Zc : List (S28)) (Zt : ByteArray) (Zu : ByteArray) (Zv : ByteArray) : Option (Bool) := gatehouseref08_excepted.l0 k 0 Zi Zj Zk Zl Zm Zn Zo Zp Zq Zr Zc Zt Zu Zv
theorem gatehouseref08_excepted.calls (k : Nat) (ZB : Option Addr) (ZC : Nat) (Zi : List ByteArray) (ZD : Option Addr) (ZE : Nat) (Zj : List (S54)) (ZF : Option Addr) (ZG : Nat) (Zk : List ByteArray) (ZH : Option Addr) (ZI : Nat) (Zl : List ByteArray) (ZJ : Option Addr) (ZK : Nat) (Zm : List ByteArray) (ZL : Option Addr) (ZM : Nat) (Zn : List (S108)) (ZN : Option Addr) (ZO : Nat) (Zo : List (S108)) (ZP : Option Addr) (ZQ : Nat) (Zp : List (S108)) (ZR : Option Addr) (ZS : Nat) (Zq : List (S108)) (ZT : Option Addr) (ZU : Nat) (Zr : List (S78)) (Zf : Option Addr) (Zg : Nat) (Zc : List (S28)) (Zt : ByteArray) (Zu : ByteArray) (Zv : ByteArray) (r : Bool) (w : World) (Yf : Kd.C Kd.string w ZB Zi.length Zi) (Yg : Zi.length ≤ ZC) (Yh : Kd.C k54 w ZD Zj.length Zj) (Yi : Zj.length ≤ ZE) (Yj : Kd.C Kd.string w ZF Zk.length Zk) (Yk : Zk.length ≤ ZG) (Yl : Kd.C Kd.string w ZH Zl.length Zl) (Ym : Zl.length ≤ ZI) (Yn : Kd.C Kd.string w ZJ Zm.length Zm) (Yo : Zm.length ≤ ZK) (Yp : Kd.C k108 w ZL Zn.length Zn) (Yq : Zn.length ≤ ZM) (Yr : Kd.C k108 w ZN Zo.length Zo) (Ys : Zo.length ≤ ZO) (Yt : Kd.C k108 w ZP Zp.length Zp) (Yu : Zp.length ≤ ZQ) (Yv : Kd.C k108 w ZR Zq.length Zq) (Yw : Zq.length ≤ ZS) (Yx : Kd.C k78 w ZT Zr.length Zr) (Yy : Zr.length ≤ ZU) (Z2 : Kd.C k28 w Zf Zc.length Zc) (Z3 : Zc.length ≤ Zg) (h : gatehouseref08_excepted.f k Zi Zj Zk Zl Zm Zn Zo Zp Zq Zr Zc Zt Zu Zv = some r) :
  Calls Try.prog 81 #[.agg #[.slice ZB Zi.length ZC, .slice ZD Zj.length ZE, .slice ZF Zk.length ZG, .slice ZH Zl.length ZI, .slice ZJ Zm.length ZK, .slice ZL Zn.length ZM, .slice ZN Zo.length ZO, .slice ZP Zp.length ZQ, .slice ZR Zq.length ZS, .slice ZT Zr.length ZU, .slice Zf Zc.length Zg], .agg #[.string Zt, .string Zu, .string Zv]] w fun e w' => e = .returned (.bool r) ∧ Below w.heap.size w w' := by
 have Vm := Try.underlying39
 have Vn := Try.underlying28
 have XU := jA Yf
 have XV := jA Yg
 clear Yf Yg
 have XW := jA Yh
 have XX := jA Yi
 clear Yh Yi
 have XY := jA Yj
 have XZ := jA Yk
 clear Yj Yk
 have X0 := jA Yl
 have X5 := jA Ym
 clear Yl Ym
 have X6 := jA Yn
 have X7 := jA Yo
 clear Yn Yo
 have X8 := jA Yp
 have X9 := jA Yq
 clear Yp Yq
 have Va := jA Yr
 have Vb := jA Ys
 clear Yr Ys
 have Vc := jA Yt
 have Vd := jA Yu
 clear Yt Yu
 have Ve := jA Yv
 have Vf := jA Yw
 clear Yv Yw
 have Vg := jA Yx
 have Vh := jA Yy
 clear Yx Yy
 have Z4 := jA Z2
 have Xz := jA Z3
 clear Z2 Z3
 have HB := jA (Below.refl w.heap.size w)
 have H : (gatehouseref08_excepted.l0 k 0 Zi Zj Zk Zl Zm Zn Zo Zp Zq Zr Zc Zt Zu Zv) = some r := h
 clear h
 have H' := jA H
 clear H
 go_enter Try.func81, Try.ntmps81
 go_wp2_with (first | ((with_reducible refine gate_dst (N := 2) rfl ?_); refine box_event ?hg (N := 2) ?hd (cs := #[.slice ZB Zi.length ZC, .slice ZD Zj.length ZE, .slice ZF Zk.length ZG, .slice ZH Zl.length ZI, .slice ZJ Zm.length ZK, .slice ZL Zn.length ZM, .slice ZN Zo.length ZO, .slice ZP Zp.length ZQ, .slice ZR Zq.length ZS, .slice ZT Zr.length ZU, .slice Zf Zc.length Zg]) (t := 39) ?hr ?_; (case hd => rfl); (case hg => rfl); (case hr => first | (go_simp; done) | (go_simp; rfl)); intro Zb hg w3 hbox hb; have n0_ := jA (below_step (by repeat (first | (with_reducible first | exact HB.out | apply below_alloc | apply pw_below_drewN | apply below_drew1) | exact HB.out)) hb); have n1_ := jA (hbox); have n2_ := jA ((by rw [hg]; exact (below_size (by repeat (first | (with_reducible first | exact HB.out | apply below_alloc | apply pw_below_drewN | apply below_drew1) | exact HB.out))) : w.heap.size ≤ Zb)); have n3_ := jA ((by rw [hg]; exact (below_size (by repeat (first | (with_reducible first | exact HB.out | apply below_alloc | apply pw_below_drewN | apply below_drew1) | exact HB.out))) : w.heap.size ≤ Zb)); clear HB; have HB := n0_; have Za := n1_; have Yz := n2_; have Zs := n3_; clear n0_ n1_ n2_ n3_; clear hb hbox hg) | ((with_reducible refine gate_dst (N := 3) rfl ?_); refine box_event ?hg (N := 3) ?hd (cs := #[.string Zt, .string Zu, .string Zv]) (t := 28) ?hr ?_; (case hd => rfl); (case hg => rfl); (case hr => first | (go_simp; done) | (go_simp; rfl)); intro Ze hg w4 hbox hb; have n0_ := jA (blk_below (g := Zb) (o := .cells #[.slice ZB Zi.length ZC, .slice ZD Zj.length ZE, .slice ZF Zk.length ZG, .slice ZH Zl.length ZI, .slice ZJ Zm.length ZK, .slice ZL Zn.length ZM, .slice ZN Zo.length ZO, .slice ZP Zp.length ZQ, .slice ZR Zq.length ZS, .slice ZT Zr.length ZU, .slice Zf Zc.length Zg] 39 (0, 0)) (by (with_reducible repeat (first | refine blk_drewN ?_ _ | refine blk_drew ?_ | refine blk_alloc ?_ _)); exact Za.out) hb); have n1_ := jA (below_step (by repeat (first | (with_reducible first | exact HB.out | apply below_alloc | apply pw_below_drewN | apply below_drew1 | refine below_set ?_ Zs.out) | exact HB.out)) hb); have n2_ := jA (hbox); have n3_ := jA ((by rw [hg]; exact (below_size (by repeat (first | (with_reducible first | exact HB.out | apply below_alloc | apply pw_below_drewN | apply below_drew1 | refine below_set ?_ Zs.out) | exact HB.out))) : w.heap.size ≤ Ze)); have n4_ := jA ((by rw [hg]; exact (below_size (by repeat (first | (with_reducible first | exact HB.out | apply below_alloc | apply pw_below_drewN | apply below_drew1 | refine below_set ?_ Zs.out) | exact HB.out))) : w.heap.size ≤ Ze)); have n5_ := jA ((by rw [hg]; exact Nat.ne_of_lt (blk_lt (g := Zb) (o := .cells #[.slice ZB Zi.length ZC, .slice ZD Zj.length ZE, .slice ZF Zk.length ZG, .slice ZH Zl.length ZI, .slice ZJ Zm.length ZK, .slice ZL Zn.length ZM, .slice ZN Zo.length ZO, .slice ZP Zp.length ZQ, .slice ZR Zq.length ZS, .slice ZT Zr.length ZU, .slice Zf Zc.length Zg] 39 (0, 0)) (by (with_reducible repeat (first | refine blk_drewN ?_ _ | refine blk_drew ?_ | refine blk_alloc ?_ _)); exact Za.out)) : Zb ≠ Ze)); have n6_ := jA ((by rw [hg]; exact Nat.ne_of_gt (blk_lt (g := Zb) (o := .cells #[.slice ZB Zi.length ZC, .slice ZD Zj.length ZE, .slice ZF Zk.length ZG, .slice ZH Zl.length ZI, .slice ZJ Zm.length ZK, .slice ZL Zn.length ZM, .slice ZN Zo.length ZO, .slice ZP Zp.length ZQ, .slice ZR Zq.length ZS, .slice ZT Zr.length ZU, .slice Zf Zc.length Zg] 39 (0, 0)) (by (with_reducible repeat (first | refine blk_drewN ?_ _ | refine blk_drew ?_ | refine blk_alloc ?_ _)); exact Za.out)) : Ze ≠ Zb)); clear Za; clear HB; have Za := n0_; have HB := n1_; have Zh := n2_; have YA := n3_; have ZW := n4_; have Zw := n5_; have Zx := n6_; clear n0_ n1_ n2_ n3_ n4_ n5_ n6_; clear hb hbox hg))
 repeat (go_quiet (first | ((with_reducible refine gate_dst (N := 2) rfl ?_); refine box_event ?hg (N := 2) ?hd (cs := #[.slice ZB Zi.length ZC, .slice ZD Zj.length ZE, .slice ZF Zk.length ZG, .slice ZH Zl.length ZI, .slice ZJ Zm.length ZK, .slice ZL Zn.length ZM, .slice ZN Zo.length ZO, .slice ZP Zp.length ZQ, .slice ZR Zq.length ZS, .slice ZT Zr.length ZU, .slice Zf Zc.length Zg]) (t := 39) ?hr ?_; (case hd => rfl); (case hg => rfl); (case hr => first | (go_simp; done) | (go_simp; rfl)); intro Zb hg w3 hbox hb; have n0_ := jA (below_step (by repeat (first | (with_reducible first | exact HB.out | apply below_alloc | apply pw_below_drewN | apply below_drew1) | exact HB.out)) hb); have n1_ := jA (hbox); have n2_ := jA ((by rw [hg]; exact (below_size (by repeat (first | (with_reducible first | exact HB.out | apply below_alloc | apply pw_below_drewN | apply below_drew1) | exact HB.out))) : w.heap.size ≤ Zb)); have n3_ := jA ((by rw [hg]; exact (below_size (by repeat (first | (with_reducible first | exact HB.out | apply below_alloc | apply pw_below_drewN | apply below_drew1) | exact HB.out))) : w.heap.size ≤ Zb)); clear HB; have HB := n0_; have Za := n1_; have Yz := n2_; have Zs := n3_; clear n0_ n1_ n2_ n3_; clear hb hbox hg) | ((with_reducible refine gate_dst (N := 3) rfl ?_); refine box_event ?hg (N := 3) ?hd (cs := #[.string Zt, .string Zu, .string Zv]) (t := 28) ?hr ?_; (case hd => rfl); (case hg => rfl); (case hr => first | (go_simp; done) | (go_simp; rfl)); intro Ze hg w4 hbox hb; have n0_ := jA (blk_below (g := Zb) (o := .cells #[.slice ZB Zi.length ZC, .slice ZD Zj.length ZE, .slice ZF Zk.length ZG, .slice ZH Zl.length ZI, .slice ZJ Zm.length ZK, .slice ZL Zn.length ZM, .slice ZN Zo.length ZO, .slice ZP Zp.length ZQ, .slice ZR Zq.length ZS, .slice ZT Zr.length ZU, .slice Zf Zc.length Zg] 39 (0, 0)) (by (with_reducible repeat (first | refine blk_drewN ?_ _ | refine blk_drew ?_ | refine blk_alloc ?_ _)); exact Za.out) hb); have n1_ := jA (below_step (by repeat (first | (with_reducible first | exact HB.out | apply below_alloc | apply pw_below_drewN | apply below_drew1 | refine below_set ?_ Zs.out) | exact HB.out)) hb); have n2_ := jA (hbox); have n3_ := jA ((by rw [hg]; exact (below_size (by repeat (first | (with_reducible first | exact HB.out | apply below_alloc | apply pw_below_drewN | apply below_drew1 | refine below_set ?_ Zs.out) | exact HB.out))) : w.heap.size ≤ Ze)); have n4_ := jA ((by rw [hg]; exact (below_size (by repeat (first | (with_reducible first | exact HB.out | apply below_alloc | apply pw_below_drewN | apply below_drew1 | refine below_set ?_ Zs.out) | exact HB.out))) : w.heap.size ≤ Ze)); have n5_ := jA ((by rw [hg]; exact Nat.ne_of_lt (blk_lt (g := Zb) (o := .cells #[.slice ZB Zi.length ZC, .slice ZD Zj.length ZE, .slice ZF Zk.length ZG, .slice ZH Zl.length ZI, .slice ZJ Zm.length ZK, .slice ZL Zn.length ZM, .slice ZN Zo.length ZO, .slice ZP Zp.length ZQ, .slice ZR Zq.length ZS, .slice ZT Zr.length ZU, .slice Zf Zc.length Zg] 39 (0, 0)) (by (with_reducible repeat (first | refine blk_drewN ?_ _ | refine blk_drew ?_ | refine blk_alloc ?_ _)); exact Za.out)) : Zb ≠ Ze)); have n6_ := jA ((by rw [hg]; exact Nat.ne_of_gt (blk_lt (g := Zb) (o := .cells #[.slice ZB Zi.length ZC, .slice ZD Zj.length ZE, .slice ZF Zk.length ZG, .slice ZH Zl.length ZI, .slice ZJ Zm.length ZK, .slice ZL Zn.length ZM, .slice ZN Zo.length ZO, .slice ZP Zp.length ZQ, .slice ZR Zq.length ZS, .slice ZT Zr.length ZU, .slice Zf Zc.length Zg] 39 (0, 0)) (by (with_reducible repeat (first | refine blk_drewN ?_ _ | refine blk_drew ?_ | refine blk_alloc ?_ _)); exact Za.out)) : Ze ≠ Zb)); clear Za; clear HB; have Za := n0_; have HB := n1_; have Zh := n2_; have YA := n3_; have ZW := n4_; have Zw := n5_; have Zx := n6_; clear n0_ n1_ n2_ n3_ n4_ n5_ n6_; clear hb hbox hg)); try go_wp2_with (first | ((with_reducible refine gate_dst (N := 2) rfl ?_); refine box_event ?hg (N := 2) ?hd (cs := #[.slice ZB Zi.length ZC, .slice ZD Zj.length ZE, .slice ZF Zk.length ZG, .slice ZH Zl.length ZI, .slice ZJ Zm.length ZK, .slice ZL Zn.length ZM, .slice ZN Zo.length ZO, .slice ZP Zp.length ZQ, .slice ZR Zq.length ZS, .slice ZT Zr.length ZU, .slice Zf Zc.length Zg]) (t := 39) ?hr ?_; (case hd => rfl); (case hg => rfl); (case hr => first | (go_simp; done) | (go_simp; rfl)); intro Zb hg w3 hbox hb; have n0_ := jA (below_step (by repeat (first | (with_reducible first | exact HB.out | apply below_alloc | apply pw_below_drewN | apply below_drew1) | exact HB.out)) hb); have n1_ := jA (hbox); have n2_ := jA ((by rw [hg]; exact (below_size (by repeat (first | (with_reducible first | exact HB.out | apply below_alloc | apply pw_below_drewN | apply below_drew1) | exact HB.out))) : w.heap.size ≤ Zb)); have n3_ := jA ((by rw [hg]; exact (below_size (by repeat (first | (with_reducible first | exact HB.out | apply below_alloc | apply pw_below_drewN | apply below_drew1) | exact HB.out))) : w.heap.size ≤ Zb)); clear HB; have HB := n0_; have Za := n1_; have Yz := n2_; have Zs := n3_; clear n0_ n1_ n2_ n3_; clear hb hbox hg) | ((with_reducible refine gate_dst (N := 3) rfl ?_); refine box_event ?hg (N := 3) ?hd (cs := #[.string Zt, .string Zu, .string Zv]) (t := 28) ?hr ?_; (case hd => rfl); (case hg => rfl); (case hr => first | (go_simp; done) | (go_simp; rfl)); intro Ze hg w4 hbox hb; have n0_ := jA (blk_below (g := Zb) (o := .cells #[.slice ZB Zi.length ZC, .slice ZD Zj.length ZE, .slice ZF Zk.length ZG, .slice ZH Zl.length ZI, .slice ZJ Zm.length ZK, .slice ZL Zn.length ZM, .slice ZN Zo.length ZO, .slice ZP Zp.length ZQ, .slice ZR Zq.length ZS, .slice ZT Zr.length ZU, .slice Zf Zc.length Zg] 39 (0, 0)) (by (with_reducible repeat (first | refine blk_drewN ?_ _ | refine blk_drew ?_ | refine blk_alloc ?_ _)); exact Za.out) hb); have n1_ := jA (below_step (by repeat (first | (with_reducible first | exact HB.out | apply below_alloc | apply pw_below_drewN | apply below_drew1 | refine below_set ?_ Zs.out) | exact HB.out)) hb); have n2_ := jA (hbox); have n3_ := jA ((by rw [hg]; exact (below_size (by repeat (first | (with_reducible first | exact HB.out | apply below_alloc | apply pw_below_drewN | apply below_drew1 | refine below_set ?_ Zs.out) | exact HB.out))) : w.heap.size ≤ Ze)); have n4_ := jA ((by rw [hg]; exact (below_size (by repeat (first | (with_reducible first | exact HB.out | apply below_alloc | apply pw_below_drewN | apply below_drew1 | refine below_set ?_ Zs.out) | exact HB.out))) : w.heap.size ≤ Ze)); have n5_ := jA ((by rw [hg]; exact Nat.ne_of_lt (blk_lt (g := Zb) (o := .cells #[.slice ZB Zi.length ZC, .slice ZD Zj.length ZE, .slice ZF Zk.length ZG, .slice ZH Zl.length ZI, .slice ZJ Zm.length ZK, .slice ZL Zn.length ZM, .slice ZN Zo.length ZO, .slice ZP Zp.length ZQ, .slice ZR Zq.length ZS, .slice ZT Zr.length ZU, .slice Zf Zc.length Zg] 39 (0, 0)) (by (with_reducible repeat (first | refine blk_drewN ?_ _ | refine blk_drew ?_ | refine blk_alloc ?_ _)); exact Za.out)) : Zb ≠ Ze)); have n6_ := jA ((by rw [hg]; exact Nat.ne_of_gt (blk_lt (g := Zb) (o := .cells #[.slice ZB Zi.length ZC, .slice ZD Zj.length ZE, .slice ZF Zk.length ZG, .slice ZH Zl.length ZI, .slice ZJ Zm.length ZK, .slice ZL Zn.length ZM, .slice ZN Zo.length ZO, .slice ZP Zp.length ZQ, .slice ZR Zq.length ZS, .slice ZT Zr.length ZU, .slice Zf Zc.length Zg] 39 (0, 0)) (by (with_reducible repeat (first | refine blk_drewN ?_ _ | refine blk_drew ?_ | refine blk_alloc ?_ _)); exact Za.out)) : Ze ≠ Zb)); clear Za; clear HB; have Za := n0_; have HB := n1_; have Zh := n2_; have YA := n3_; have ZW := n4_; have Zw := n5_; have Zx := n6_; clear n0_ n1_ n2_ n3_ n4_ n5_ n6_; clear hb hbox hg)))
 go_loopg [5] k (fun kq v5 w' => ∃ (Zd : Int), v5 = .int .i64 Zd ∧ Aside0 (gatehouseref08_excepted.l0 kq Zd Zi Zj Zk Zl Zm Zn Zo Zp Zq Zr Zc Zt Zu Zv = some r) ∧ Aside0 (kq ≤ k) ∧ Aside0 (w'.heap[Zb]? = some (.cells #[(.slice ZB Zi.length ZC), (.slice ZD Zj.length ZE), (.slice ZF Zk.length ZG), (.slice ZH Zl.length ZI), (.slice ZJ Zm.length ZK), (.slice ZL Zn.length ZM), (.slice ZN Zo.length ZO), (.slice ZP Zp.length ZQ), (.slice ZR Zq.length ZS), (.slice ZT Zr.length ZU), (.slice Zf Zc.length Zg)] 39 (0, 0))) ∧ Aside0 (w'.heap[Ze]? = some (.cells #[.string Zt, .string Zu, .string Zv] 28 (0, 0))) ∧ Aside0 (Below w.heap.size w w'))
 case atStart => exact ⟨(0), (by first | rfl | (simp; done) | (simp [*]; done)), H', ⟨Nat.le_refl _⟩, ⟨by (with_reducible repeat (first | refine blk_drewN ?_ _ | refine blk_drew ?_ | refine blk_alloc ?_ _)); exact Za.out⟩, ⟨by (with_reducible repeat (first | refine blk_drewN ?_ _ | refine blk_drew ?_ | refine blk_alloc ?_ _)); exact Zh.out⟩, ⟨by repeat (first | (with_reducible first | exact HB.out | apply below_alloc | apply pw_below_drewN | apply below_drew1 | refine below_set ?_ Zs.out | refine below_set ?_ ZW.out) | exact HB.out)⟩⟩
 case round =>
  clear H'
  try clear p2
  obtain ⟨Zd, rfl, HA, HK1, Za, Zh, HB⟩ := hrel
  cases gk with
  | zero => exact absurd HA.out (by simp [gatehouseref08_excepted.l0])
  | succ k1 =>
   have H := HA.out
   clear HA
   simp only [gatehouseref08_excepted.l0] at H
   by_cases c5 : Zd < (Zc.length : Int)
   ·rw [if_pos c5] at H
    have c5b0 : decide (Zd < (Zc.length : Int)) = true := decide_eq_true c5
    clear c5
    by_cases c6 : 0 ≤ Zd
    ·rw [if_pos c6] at H
     have c6b0 : decide (0 ≤ Zd) = true := decide_eq_true c6
     clear c6
     by_cases c7 : ((((rd_T28 Zc Zd).f0).toList) == Zt.toList && ((((rd_T28 Zc Zd).f1).toList) == Zu.toList && ((((rd_T28 Zc Zd).f2).toList) == Zv.toList))) = true
     ·rw [if_pos c7] at H
      have c7b0 : ((((rd_T28 Zc Zd).f0).toList) == Zt.toList && ((((rd_T28 Zc Zd).f1).toList) == Zu.toList && ((((rd_T28 Zc Zd).f2).toList) == Zv.toList))) = true := c7
      (try (have c7b1 : decide ((((rd_T28 Zc Zd).f0).toList) = Zt.toList && ((((rd_T28 Zc Zd).f1).toList) == Zu.toList && ((((rd_T28 Zc Zd).f2).toList) == Zv.toList))) = true := by simpa using c7))
      (try (have c7b2 : ((((rd_T28 Zc Zd).f0).toList) == Zt.toList && ((((rd_T28 Zc Zd).f1).toList) == Zu.toList && ((((rd_T28 Zc Zd).f2).toList) == Zv.toList))) = true := by simpa using c7))
      clear c7
      obtain rfl := Option.some.inj H
      have Vo := Zw.out
      have Vp := Zx.out
      have XA : wr.cell? ⟨Zb, 0, none⟩ = some (.slice ZB Zi.length ZC) := (blk_cell Za.out 0).trans rfl
      have XB : wr.cell? ⟨Zb, 1, none⟩ = some (.slice ZD Zj.length ZE) := (blk_cell Za.out 1).trans rfl
      have XC : wr.cell? ⟨Zb, 2, none⟩ = some (.slice ZF Zk.length ZG) := (blk_cell Za.out 2).trans rfl
      have XD : wr.cell? ⟨Zb, 3, none⟩ = some (.slice ZH Zl.length ZI) := (blk_cell Za.out 3).trans rfl
      have XE : wr.cell? ⟨Zb, 4, none⟩ = some (.slice ZJ Zm.length ZK) := (blk_cell Za.out 4).trans rfl
      have XF : wr.cell? ⟨Zb, 5, none⟩ = some (.slice ZL Zn.length ZM) := (blk_cell Za.out 5).trans rfl
      have XG : wr.cell? ⟨Zb, 6, none⟩ = some (.slice ZN Zo.length ZO) := (blk_cell Za.out 6).trans rfl
      have XH : wr.cell? ⟨Zb, 7, none⟩ = some (.slice ZP Zp.length ZQ) := (blk_cell Za.out 7).trans rfl
      have XI : wr.cell? ⟨Zb, 8, none⟩ = some (.slice ZR Zq.length ZS) := (blk_cell Za.out 8).trans rfl
      have XJ : wr.cell? ⟨Zb, 9, none⟩ = some (.slice ZT Zr.length ZU) := (blk_cell Za.out 9).trans rfl
      have YH : wr.cell? ⟨Zb, 10, none⟩ = some (.slice Zf Zc.length Zg) := (blk_cell Za.out 10).trans rfl
      have XK := blk_frozen Za.out 0
      have XL := blk_frozen Za.out 1
      have XM := blk_frozen Za.out 2
      have XN := blk_frozen Za.out 3
      have XO := blk_frozen Za.out 4
      have XP := blk_frozen Za.out 5
      have XQ := blk_frozen Za.out 6
      have XR := blk_frozen Za.out 7
      have XS := blk_frozen Za.out 8
      have XT := blk_frozen Za.out 9
      have YI := blk_frozen Za.out 10
      have ZX : 0 ≤ (Zd : Int) := of_decide_eq_true (by first | (with_reducible assumption) | assumption)
      have ZY : Zd < (Zc.length : Int) := of_decide_eq_true (by first | (with_reducible assumption) | assumption)
      obtain ⟨YC, YB, Zy, Zz, ZA⟩ := at_T28 Z4.out Zd ZX ZY
      cases YB
      replace Zy := (HB.out.cell (World.block_lt_of_cell? w _ Zy)).trans Zy
      replace Zz := (HB.out.cell (World.block_lt_of_cell? w _ Zz)).trans Zz
      replace ZA := (HB.out.cell (World.block_lt_of_cell? w _ ZA)).trans ZA
      replace ZX := eq_true ZX
      replace ZY := eq_true ZY
      have YJ : wr.cell? ⟨Ze, 0, none⟩ = some (.string Zt) := (blk_cell Zh.out 0).trans rfl
      have YK : wr.cell? ⟨Ze, 1, none⟩ = some (.string Zu) := (blk_cell Zh.out 1).trans rfl
      have YL : wr.cell? ⟨Ze, 2, none⟩ = some (.string Zv) := (blk_cell Zh.out 2).trans rfl
      have YM := blk_frozen Zh.out 0
      have YN := blk_frozen Zh.out 1
      have YO := blk_frozen Zh.out 2
      go_wp2
      repeat (go_quiet (fail); try go_wp2)
      go_ret
      exact ⟨by first | rfl | (simp [errW_none, errW_some] <;> rfl) | (simp [*, errW_none, errW_some] <;> rfl), by repeat (first | (with_reducible first | exact HB.out | apply below_alloc | apply pw_below_drewN | apply below_drew1 | refine below_set ?_ Zs.out | refine below_set ?_ ZW.out) | exact HB.out)⟩
     ·rw [if_neg c7] at H
      have c7b0 : ((((rd_T28 Zc Zd).f0).toList) == Zt.toList && ((((rd_T28 Zc Zd).f1).toList) == Zu.toList && ((((rd_T28 Zc Zd).f2).toList) == Zv.toList))) = false := by simpa using c7
      (try (have c7b1 : decide ((((rd_T28 Zc Zd).f0).toList) = Zt.toList && ((((rd_T28 Zc Zd).f1).toList) == Zu.toList && ((((rd_T28 Zc Zd).f2).toList) == Zv.toList))) = false := by simpa using c7))
      (try (have c7b2 : ((((rd_T28 Zc Zd).f0).toList) == Zt.toList && ((((rd_T28 Zc Zd).f1).toList) == Zu.toList && ((((rd_T28 Zc Zd).f2).toList) == Zv.toList))) = false := by simpa using c7))
      (try (have c7b3 : ¬ ((((rd_T28 Zc Zd).f0).toList) = Zt.toList && ((((rd_T28 Zc Zd).f1).toList) == Zu.toList && ((((rd_T28 Zc Zd).f2).toList) == Zv.toList))) := by simpa using c7))
      clear c7
      have H' := jA H
      clear H
      have Vi := Zw.out
      have Vj := Zx.out
      have YP : wr.cell? ⟨Zb, 0, none⟩ = some (.slice ZB Zi.length ZC) := (blk_cell Za.out 0).trans rfl
      have YQ : wr.cell? ⟨Zb, 1, none⟩ = some (.slice ZD Zj.length ZE) := (blk_cell Za.out 1).trans rfl
      have YR : wr.cell? ⟨Zb, 2, none⟩ = some (.slice ZF Zk.length ZG) := (blk_cell Za.out 2).trans rfl
      have YS : wr.cell? ⟨Zb, 3, none⟩ = some (.slice ZH Zl.length ZI) := (blk_cell Za.out 3).trans rfl
      have YT : wr.cell? ⟨Zb, 4, none⟩ = some (.slice ZJ Zm.length ZK) := (blk_cell Za.out 4).trans rfl
      have YU : wr.cell? ⟨Zb, 5, none⟩ = some (.slice ZL Zn.length ZM) := (blk_cell Za.out 5).trans rfl
      have YV : wr.cell? ⟨Zb, 6, none⟩ = some (.slice ZN Zo.length ZO) := (blk_cell Za.out 6).trans rfl
      have YW : wr.cell? ⟨Zb, 7, none⟩ = some (.slice ZP Zp.length ZQ) := (blk_cell Za.out 7).trans rfl
      have YX : wr.cell? ⟨Zb, 8, none⟩ = some (.slice ZR Zq.length ZS) := (blk_cell Za.out 8).trans rfl
      have YY : wr.cell? ⟨Zb, 9, none⟩ = some (.slice ZT Zr.length ZU) := (blk_cell Za.out 9).trans rfl
      have YD : wr.cell? ⟨Zb, 10, none⟩ = some (.slice Zf Zc.length Zg) := (blk_cell Za.out 10).trans rfl
      have YZ := blk_frozen Za.out 0
      have Y0 := blk_frozen Za.out 1
      have Y1 := blk_frozen Za.out 2
      have Y2 := blk_frozen Za.out 3
      have Y3 := blk_frozen Za.out 4
      have Y4 := blk_frozen Za.out 5
      have Y5 := blk_frozen Za.out 6
      have Y6 := blk_frozen Za.out 7
      have Y7 := blk_frozen Za.out 8
      have Y8 := blk_frozen Za.out 9
      have YE := blk_frozen Za.out 10
      have ZX : 0 ≤ (Zd : Int) := of_decide_eq_true (by first | (with_reducible assumption) | assumption)
      have ZY : Zd < (Zc.length : Int) := of_decide_eq_true (by first | (with_reducible assumption) | assumption)
      obtain ⟨YC, YB, Zy, Zz, ZA⟩ := at_T28 Z4.out Zd ZX ZY
      cases YB
      replace Zy := (HB.out.cell (World.block_lt_of_cell? w _ Zy)).trans Zy
      replace Zz := (HB.out.cell (World.block_lt_of_cell? w _ Zz)).trans Zz
      replace ZA := (HB.out.cell (World.block_lt_of_cell? w _ ZA)).trans ZA
      replace ZX := eq_true ZX
      replace ZY := eq_true ZY
      have Y9 : wr.cell? ⟨Ze, 0, none⟩ = some (.string Zt) := (blk_cell Zh.out 0).trans rfl
      have Xa : wr.cell? ⟨Ze, 1, none⟩ = some (.string Zu) := (blk_cell Zh.out 1).trans rfl
      have Xb : wr.cell? ⟨Ze, 2, none⟩ = some (.string Zv) := (blk_cell Zh.out 2).trans rfl
      have Xc := blk_frozen Zh.out 0
      have Xd := blk_frozen Zh.out 1
      have Xe := blk_frozen Zh.out 2
      go_wp2
      repeat (go_quiet (fail); try go_wp2)
      go_roundg k1
      case measure => have := HK1.out; omega
      case rel => exact ⟨(wrap64 (Zd + 1)), (by first | rfl | (simp; done) | (simp [*]; done)), H', ⟨by have := HK1.out; omega⟩, ⟨by (with_reducible repeat (first | refine blk_drewN ?_ _ | refine blk_drew ?_ | refine blk_alloc ?_ _)); exact Za.out⟩, ⟨by (with_reducible repeat (first | refine blk_drewN ?_ _ | refine blk_drew ?_ | refine blk_alloc ?_ _)); exact Zh.out⟩, ⟨by repeat (first | (with_reducible first | exact HB.out | apply below_alloc | apply pw_below_drewN | apply below_drew1 | refine below_set ?_ Zs.out | refine below_set ?_ ZW.out) | exact HB.out)⟩⟩
    ·rw [if_neg c6] at H
     exact absurd H (by simp)
   ·rw [if_neg c5] at H
    have c5b0 : decide (Zd < (Zc.length : Int)) = false := decide_eq_false c5
    clear c5
    obtain rfl := Option.some.inj H
    have Vk := Zw.out
    have Vl := Zx.out
    have Xf : wr.cell? ⟨Zb, 0, none⟩ = some (.slice ZB Zi.length ZC) := (blk_cell Za.out 0).trans rfl
    have Xg : wr.cell? ⟨Zb, 1, none⟩ = some (.slice ZD Zj.length ZE) := (blk_cell Za.out 1).trans rfl
    have Xh : wr.cell? ⟨Zb, 2, none⟩ = some (.slice ZF Zk.length ZG) := (blk_cell Za.out 2).trans rfl
    have Xi : wr.cell? ⟨Zb, 3, none⟩ = some (.slice ZH Zl.length ZI) := (blk_cell Za.out 3).trans rfl
    have Xj : wr.cell? ⟨Zb, 4, none⟩ = some (.slice ZJ Zm.length ZK) := (blk_cell Za.out 4).trans rfl
    have Xk : wr.cell? ⟨Zb, 5, none⟩ = some (.slice ZL Zn.length ZM) := (blk_cell Za.out 5).trans rfl
    have Xl : wr.cell? ⟨Zb, 6, none⟩ = some (.slice ZN Zo.length ZO) := (blk_cell Za.out 6).trans rfl
    have Xm : wr.cell? ⟨Zb, 7, none⟩ = some (.slice ZP Zp.length ZQ) := (blk_cell Za.out 7).trans rfl
    have Xn : wr.cell? ⟨Zb, 8, none⟩ = some (.slice ZR Zq.length ZS) := (blk_cell Za.out 8).trans rfl
    have Xo : wr.cell? ⟨Zb, 9, none⟩ = some (.slice ZT Zr.length ZU) := (blk_cell Za.out 9).trans rfl
    have YF : wr.cell? ⟨Zb, 10, none⟩ = some (.slice Zf Zc.length Zg) := (blk_cell Za.out 10).trans rfl
    have Xp := blk_frozen Za.out 0
    have Xq := blk_frozen Za.out 1
    have Xr := blk_frozen Za.out 2
    have Xs := blk_frozen Za.out 3
    have Xt := blk_frozen Za.out 4
    have Xu := blk_frozen Za.out 5
    have Xv := blk_frozen Za.out 6
    have Xw := blk_frozen Za.out 7
    have Xx := blk_frozen Za.out 8
    have Xy := blk_frozen Za.out 9
    have YG := blk_frozen Za.out 10
    go_wp2
    repeat (go_quiet (fail); try go_wp2)
    go_ret
    exact ⟨by first | rfl | (simp [errW_none, errW_some] <;> rfl) | (simp [*, errW_none, errW_some] <;> rfl), by repeat (first | (with_reducible first | exact HB.out | apply below_alloc | apply pw_below_drewN | apply below_drew1 | refine below_set ?_ Zs.out | refine below_set ?_ ZW.out) | exact HB.out)⟩
end Go.Proofs.Ythaiodklfoegiaa.PG
namespace Go.Proofs.Ythaiodklfoegiaa.PG
open YthaiodklfoegiaaF
attribute [local go_sem high] run_feq run_fne run_flt_lt run_flt_le run_flt_gt run_flt_ge
open Go.RowKit YthaiodklfoegiaaW.PrintWords YthaiodklfoegiaaW.PrintLast YthaiodklfoegiaaW.PrintMore
attribute [local go_sem] max2_int min2_int max_two min_two max_three min_three max_four min_four
mutual
def gatehouseref08_may.l0 : Nat → List (S78) → Bool → Int → List ByteArray → List (S54) → List ByteArray → List ByteArray → List ByteArray → List (S108) → List (S108) → List (S108) → List (S108) → List (S78) → List (S28) → ByteArray → ByteArray → ByteArray → Option (Bool)
 | 0, _, _, _, _, _, _, _, _, _, _, _, _, _, _, _, _, _ => none
 | k + 1, x1, x7, x8, Ym, Yn, Yo, Yp, Yq, Yr, Ys, Yt, Yu, Yv, Yw, Yx, Yy, Z9 => if x8 < (x1.length : Int) then (if 0 ≤ x8 then ((gatehouseref08_in.f k ((rd_T78 x1 x8).f3) Z9).bind fun Xd => (if Xd = true then (gatehouseref08_may.j1 k x1 x7 x8 true Ym Yn Yo Yp Yq Yr Ys Yt Yu Yv Yw Yx Yy Z9) else (gatehouseref08_may.j1 k x1 x7 x8 ((((rd_T78 x1 x8).f3).length : Int) == 0) Ym Yn Yo Yp Yq Yr Ys Yt Yu Yv Yw Yx Yy Z9))) else (none)) else ((gatehouseref08_excepted.f k Ym Yn Yo Yp Yq Yr Ys Yt Yu Yv Yw Yx Yy Z9).bind fun YQ => (if x7 = true then (some (!YQ)) else (some false)))
def gatehouseref08_may.j1 : Nat → List (S78) → Bool → Int → Bool → List ByteArray → List (S54) → List ByteArray → List ByteArray → List ByteArray → List (S108) → List (S108) → List (S108) → List (S108) → List (S78) → List (S28) → ByteArray → ByteArray → ByteArray → Option (Bool)
 | 0, _, _, _, _, _, _, _, _, _, _, _, _, _, _, _, _, _, _ => none
 | k + 1, x1, x7, x8, x34, Ym, Yn, Yo, Yp, Yq, Yr, Ys, Yt, Yu, Yv, Yw, Yx, Yy, Z9 => if x34 = true then (if 0 ≤ x8 then (if x8 < (x1.length : Int) then (if (rd_T78 x1 x8).f0 = true then (some false) else (gatehouseref08_may.l0 k x1 true (wrap64 (x8 + 1)) Ym Yn Yo Yp Yq Yr Ys Yt Yu Yv Yw Yx Yy Z9)) else (none)) else (none)) else (gatehouseref08_may.l0 k x1 x7 (wrap64 (x8 + 1)) Ym Yn Yo Yp Yq Yr Ys Yt Yu Yv Yw Yx Yy Z9)
end
def gatehouseref08_may.f (k : Nat) (Zf : List ByteArray) (Zg : List (S54)) (Zh : List ByteArray) (Zi : List ByteArray) (Zj : List ByteArray) (Zk : List (S108)) (Zl : List (S108)) (Zm : List (S108)) (Zn : List (S108)) (Zo : List (S78)) (Zc : List (S28)) (l1 : List (S78)) (Zu : ByteArray) (Zv : ByteArray) (Zq : ByteArray) : Option (Bool) := gatehouseref08_may.l0 k l1 false 0 Zf Zg Zh Zi Zj Zk Zl Zm Zn Zo Zc Zu Zv Zq
theorem gatehouseref08_may.calls (k : Nat) (Zz : Option Addr) (ZA : Nat) (Zf : List ByteArray) (ZB : Option Addr) (ZC : Nat) (Zg : List (S54)) (ZD : Option Addr) (ZE : Nat) (Zh : List ByteArray) (ZF : Option Addr) (ZG : Nat) (Zi : List ByteArray) (ZH : Option Addr) (ZI : Nat) (Zj : List ByteArray) (ZJ : Option Addr) (ZK : Nat) (Zk : List (S108)) (ZL : Option Addr) (ZM : Nat) (Zl : List (S108)) (ZN : Option Addr) (ZO : Nat) (Zm : List (S108)) (ZP : Option Addr) (ZQ : Nat) (Zn : List (S108)) (ZR : Option Addr) (ZS : Nat) (Zo : List (S78)) (Zs : Option Addr) (Zt : Nat) (Zc : List (S28)) (A1 : Option Addr) (c1 : Nat) (l1 : List (S78)) (Zu : ByteArray) (Zv : ByteArray) (Zq : ByteArray) (r : Bool) (w : World) (XC : Kd.C Kd.string w Zz Zf.length Zf) (XD : Zf.length ≤ ZA) (XE : Kd.C k54 w ZB Zg.length Zg) (XF : Zg.length ≤ ZC) (XG : Kd.C Kd.string w ZD Zh.length Zh) (XH : Zh.length ≤ ZE) (XI : Kd.C Kd.string w ZF Zi.length Zi) (XJ : Zi.length ≤ ZG) (XK : Kd.C Kd.string w ZH Zj.length Zj) (XL : Zj.length ≤ ZI) (XM : Kd.C k108 w ZJ Zk.length Zk) (XN : Zk.length ≤ ZK) (XO : Kd.C k108 w ZL Zl.length Zl) (XP : Zl.length ≤ ZM) (XQ : Kd.C k108 w ZN Zm.length Zm) (XR : Zm.length ≤ ZO) (XS : Kd.C k108 w ZP Zn.length Zn) (XT : Zn.length ≤ ZQ) (XU : Kd.C k78 w ZR Zo.length Zo) (XV : Zo.length ≤ ZS) (Xl : Kd.C k28 w Zs Zc.length Zc) (Xm : Zc.length ≤ Zt) (hr1 : Kd.C k78 w A1 l1.length l1) (hc1 : l1.length ≤ c1) (h : gatehouseref08_may.f k Zf Zg Zh Zi Zj Zk Zl Zm Zn Zo Zc l1 Zu Zv Zq = some r) :
  Calls Try.prog 69 #[.agg #[.slice Zz Zf.length ZA, .slice ZB Zg.length ZC, .slice ZD Zh.length ZE, .slice ZF Zi.length ZG, .slice ZH Zj.length ZI, .slice ZJ Zk.length ZK, .slice ZL Zl.length ZM, .slice ZN Zm.length ZO, .slice ZP Zn.length ZQ, .slice ZR Zo.length ZS, .slice Zs Zc.length Zt], .slice A1 l1.length c1, .agg #[.string Zu, .string Zv, .string Zq]] w fun e w' => e = .returned (.bool r) ∧ Below w.heap.size w w' := by
 have Jl := Try.underlying39
 have Jm := Try.underlying28
 have YR := jA XC
 have YS := jA XD
 clear XC XD
 have YT := jA XE
 have YU := jA XF
 clear XE XF
 have YV := jA XG
 have YW := jA XH
 clear XG XH
 have YX := jA XI
 have YY := jA XJ
 clear XI XJ
 have YZ := jA XK
 have Y0 := jA XL
 clear XK XL
 have Y1 := jA XM
 have Y2 := jA XN
 clear XM XN
 have Y3 := jA XO
 have Y4 := jA XP
 clear XO XP
 have Y5 := jA XQ
 have Y6 := jA XR
 clear XQ XR
 have Y7 := jA XS
 have Y8 := jA XT
 clear XS XT
 have Y9 := jA XU
 have Xa := jA XV
 clear XU XV
 have YB := jA Xl
 have YC := jA Xm
 clear Xl Xm
 have HR1 := jA hr1
 have HC1 := jA hc1
 clear hr1 hc1
 have HB := jA (Below.refl w.heap.size w)
 have H : (gatehouseref08_may.l0 k l1 false 0 Zf Zg Zh Zi Zj Zk Zl Zm Zn Zo Zc Zu Zv Zq) = some r := h
 clear h
 have H' := jA H
 clear H
 go_enter Try.func69, Try.ntmps69
 go_wp2_with (first | ((with_reducible refine gate_dst (N := 3) rfl ?_); (try (refine gate_guard (by rfl) ?_; dsimp only)); refine box_event ?hg (N := 3) ?hd (cs := #[.slice Zz Zf.length ZA, .slice ZB Zg.length ZC, .slice ZD Zh.length ZE, .slice ZF Zi.length ZG, .slice ZH Zj.length ZI, .slice ZJ Zk.length ZK, .slice ZL Zl.length ZM, .slice ZN Zm.length ZO, .slice ZP Zn.length ZQ, .slice ZR Zo.length ZS, .slice Zs Zc.length Zt]) (t := 39) ?hr ?_; (case hd => rfl); (case hg => rfl); (case hr => first | (go_simp; done) | (go_simp; rfl)); intro Zb hg w4 hbox hb; have n0_ := jA (below_step (by repeat (first | (with_reducible first | exact HB.out | apply below_alloc | apply pw_below_drewN | apply below_drew1) | exact HB.out)) hb); have n1_ := jA (hbox); have n2_ := jA ((by rw [hg]; exact (below_size (by repeat (first | (with_reducible first | exact HB.out | apply below_alloc | apply pw_below_drewN | apply below_drew1) | exact HB.out))) : w.heap.size ≤ Zb)); have n3_ := jA ((by rw [hg]; exact (below_size (by repeat (first | (with_reducible first | exact HB.out | apply below_alloc | apply pw_below_drewN | apply below_drew1) | exact HB.out))) : w.heap.size ≤ Zb)); clear HB; have HB := n0_; have Za := n1_; have XW := n2_; have Zr := n3_; clear n0_ n1_ n2_ n3_; clear hb hbox hg) | ((with_reducible refine gate_dst (N := 5) rfl ?_); (try (refine gate_guard (by rfl) ?_; dsimp only)); refine box_event ?hg (N := 5) ?hd (cs := #[.string Zu, .string Zv, .string Zq]) (t := 28) ?hr ?_; (case hd => rfl); (case hg => rfl); (case hr => first | (go_simp; done) | (go_simp; rfl)); intro Ze hg w5 hbox hb; have n0_ := jA (blk_below (g := Zb) (o := .cells #[.slice Zz Zf.length ZA, .slice ZB Zg.length ZC, .slice ZD Zh.length ZE, .slice ZF Zi.length ZG, .slice ZH Zj.length ZI, .slice ZJ Zk.length ZK, .slice ZL Zl.length ZM, .slice ZN Zm.length ZO, .slice ZP Zn.length ZQ, .slice ZR Zo.length ZS, .slice Zs Zc.length Zt] 39 (0, 0)) (by (with_reducible repeat (first | refine blk_drewN ?_ _ | refine blk_drew ?_ | refine blk_alloc ?_ _)); exact Za.out) hb); have n1_ := jA (below_step (by repeat (first | (with_reducible first | exact HB.out | apply below_alloc | apply pw_below_drewN | apply below_drew1 | refine below_set ?_ Zr.out) | exact HB.out)) hb); have n2_ := jA (hbox); have n3_ := jA ((by rw [hg]; exact (below_size (by repeat (first | (with_reducible first | exact HB.out | apply below_alloc | apply pw_below_drewN | apply below_drew1 | refine below_set ?_ Zr.out) | exact HB.out))) : w.heap.size ≤ Ze)); have n4_ := jA ((by rw [hg]; exact (below_size (by repeat (first | (with_reducible first | exact HB.out | apply below_alloc | apply pw_below_drewN | apply below_drew1 | refine below_set ?_ Zr.out) | exact HB.out))) : w.heap.size ≤ Ze)); have n5_ := jA ((by rw [hg]; exact Nat.ne_of_lt (blk_lt (g := Zb) (o := .cells #[.slice Zz Zf.length ZA, .slice ZB Zg.length ZC, .slice ZD Zh.length ZE, .slice ZF Zi.length ZG, .slice ZH Zj.length ZI, .slice ZJ Zk.length ZK, .slice ZL Zl.length ZM, .slice ZN Zm.length ZO, .slice ZP Zn.length ZQ, .slice ZR Zo.length ZS, .slice Zs Zc.length Zt] 39 (0, 0)) (by (with_reducible repeat (first | refine blk_drewN ?_ _ | refine blk_drew ?_ | refine blk_alloc ?_ _)); exact Za.out)) : Zb ≠ Ze)); have n6_ := jA ((by rw [hg]; exact Nat.ne_of_gt (blk_lt (g := Zb) (o := .cells #[.slice Zz Zf.length ZA, .slice ZB Zg.length ZC, .slice ZD Zh.length ZE, .slice ZF Zi.length ZG, .slice ZH Zj.length ZI, .slice ZJ Zk.length ZK, .slice ZL Zl.length ZM, .slice ZN Zm.length ZO, .slice ZP Zn.length ZQ, .slice ZR Zo.length ZS, .slice Zs Zc.length Zt] 39 (0, 0)) (by (with_reducible repeat (first | refine blk_drewN ?_ _ | refine blk_drew ?_ | refine blk_alloc ?_ _)); exact Za.out)) : Ze ≠ Zb)); clear Za; clear HB; have Za := n0_; have HB := n1_; have Zd := n2_; have XX := n3_; have Zy := n4_; have Z7 := n5_; have Z8 := n6_; clear n0_ n1_ n2_ n3_ n4_ n5_ n6_; clear hb hbox hg))
 repeat (go_quiet (first | ((with_reducible refine gate_dst (N := 3) rfl ?_); (try (refine gate_guard (by rfl) ?_; dsimp only)); refine box_event ?hg (N := 3) ?hd (cs := #[.slice Zz Zf.length ZA, .slice ZB Zg.length ZC, .slice ZD Zh.length ZE, .slice ZF Zi.length ZG, .slice ZH Zj.length ZI, .slice ZJ Zk.length ZK, .slice ZL Zl.length ZM, .slice ZN Zm.length ZO, .slice ZP Zn.length ZQ, .slice ZR Zo.length ZS, .slice Zs Zc.length Zt]) (t := 39) ?hr ?_; (case hd => rfl); (case hg => rfl); (case hr => first | (go_simp; done) | (go_simp; rfl)); intro Zb hg w4 hbox hb; have n0_ := jA (below_step (by repeat (first | (with_reducible first | exact HB.out | apply below_alloc | apply pw_below_drewN | apply below_drew1) | exact HB.out)) hb); have n1_ := jA (hbox); have n2_ := jA ((by rw [hg]; exact (below_size (by repeat (first | (with_reducible first | exact HB.out | apply below_alloc | apply pw_below_drewN | apply below_drew1) | exact HB.out))) : w.heap.size ≤ Zb)); have n3_ := jA ((by rw [hg]; exact (below_size (by repeat (first | (with_reducible first | exact HB.out | apply below_alloc | apply pw_below_drewN | apply below_drew1) | exact HB.out))) : w.heap.size ≤ Zb)); clear HB; have HB := n0_; have Za := n1_; have XW := n2_; have Zr := n3_; clear n0_ n1_ n2_ n3_; clear hb hbox hg) | ((with_reducible refine gate_dst (N := 5) rfl ?_); (try (refine gate_guard (by rfl) ?_; dsimp only)); refine box_event ?hg (N := 5) ?hd (cs := #[.string Zu, .string Zv, .string Zq]) (t := 28) ?hr ?_; (case hd => rfl); (case hg => rfl); (case hr => first | (go_simp; done) | (go_simp; rfl)); intro Ze hg w5 hbox hb; have n0_ := jA (blk_below (g := Zb) (o := .cells #[.slice Zz Zf.length ZA, .slice ZB Zg.length ZC, .slice ZD Zh.length ZE, .slice ZF Zi.length ZG, .slice ZH Zj.length ZI, .slice ZJ Zk.length ZK, .slice ZL Zl.length ZM, .slice ZN Zm.length ZO, .slice ZP Zn.length ZQ, .slice ZR Zo.length ZS, .slice Zs Zc.length Zt] 39 (0, 0)) (by (with_reducible repeat (first | refine blk_drewN ?_ _ | refine blk_drew ?_ | refine blk_alloc ?_ _)); exact Za.out) hb); have n1_ := jA (below_step (by repeat (first | (with_reducible first | exact HB.out | apply below_alloc | apply pw_below_drewN | apply below_drew1 | refine below_set ?_ Zr.out) | exact HB.out)) hb); have n2_ := jA (hbox); have n3_ := jA ((by rw [hg]; exact (below_size (by repeat (first | (with_reducible first | exact HB.out | apply below_alloc | apply pw_below_drewN | apply below_drew1 | refine below_set ?_ Zr.out) | exact HB.out))) : w.heap.size ≤ Ze)); have n4_ := jA ((by rw [hg]; exact (below_size (by repeat (first | (with_reducible first | exact HB.out | apply below_alloc | apply pw_below_drewN | apply below_drew1 | refine below_set ?_ Zr.out) | exact HB.out))) : w.heap.size ≤ Ze)); have n5_ := jA ((by rw [hg]; exact Nat.ne_of_lt (blk_lt (g := Zb) (o := .cells #[.slice Zz Zf.length ZA, .slice ZB Zg.length ZC, .slice ZD Zh.length ZE, .slice ZF Zi.length ZG, .slice ZH Zj.length ZI, .slice ZJ Zk.length ZK, .slice ZL Zl.length ZM, .slice ZN Zm.length ZO, .slice ZP Zn.length ZQ, .slice ZR Zo.length ZS, .slice Zs Zc.length Zt] 39 (0, 0)) (by (with_reducible repeat (first | refine blk_drewN ?_ _ | refine blk_drew ?_ | refine blk_alloc ?_ _)); exact Za.out)) : Zb ≠ Ze)); have n6_ := jA ((by rw [hg]; exact Nat.ne_of_gt (blk_lt (g := Zb) (o := .cells #[.slice Zz Zf.length ZA, .slice ZB Zg.length ZC, .slice ZD Zh.length ZE, .slice ZF Zi.length ZG, .slice ZH Zj.length ZI, .slice ZJ Zk.length ZK, .slice ZL Zl.length ZM, .slice ZN Zm.length ZO, .slice ZP Zn.length ZQ, .slice ZR Zo.length ZS, .slice Zs Zc.length Zt] 39 (0, 0)) (by (with_reducible repeat (first | refine blk_drewN ?_ _ | refine blk_drew ?_ | refine blk_alloc ?_ _)); exact Za.out)) : Ze ≠ Zb)); clear Za; clear HB; have Za := n0_; have HB := n1_; have Zd := n2_; have XX := n3_; have Zy := n4_; have Z7 := n5_; have Z8 := n6_; clear n0_ n1_ n2_ n3_ n4_ n5_ n6_; clear hb hbox hg)); try go_wp2_with (first | ((with_reducible refine gate_dst (N := 3) rfl ?_); (try (refine gate_guard (by rfl) ?_; dsimp only)); refine box_event ?hg (N := 3) ?hd (cs := #[.slice Zz Zf.length ZA, .slice ZB Zg.length ZC, .slice ZD Zh.length ZE, .slice ZF Zi.length ZG, .slice ZH Zj.length ZI, .slice ZJ Zk.length ZK, .slice ZL Zl.length ZM, .slice ZN Zm.length ZO, .slice ZP Zn.length ZQ, .slice ZR Zo.length ZS, .slice Zs Zc.length Zt]) (t := 39) ?hr ?_; (case hd => rfl); (case hg => rfl); (case hr => first | (go_simp; done) | (go_simp; rfl)); intro Zb hg w4 hbox hb; have n0_ := jA (below_step (by repeat (first | (with_reducible first | exact HB.out | apply below_alloc | apply pw_below_drewN | apply below_drew1) | exact HB.out)) hb); have n1_ := jA (hbox); have n2_ := jA ((by rw [hg]; exact (below_size (by repeat (first | (with_reducible first | exact HB.out | apply below_alloc | apply pw_below_drewN | apply below_drew1) | exact HB.out))) : w.heap.size ≤ Zb)); have n3_ := jA ((by rw [hg]; exact (below_size (by repeat (first | (with_reducible first | exact HB.out | apply below_alloc | apply pw_below_drewN | apply below_drew1) | exact HB.out))) : w.heap.size ≤ Zb)); clear HB; have HB := n0_; have Za := n1_; have XW := n2_; have Zr := n3_; clear n0_ n1_ n2_ n3_; clear hb hbox hg) | ((with_reducible refine gate_dst (N := 5) rfl ?_); (try (refine gate_guard (by rfl) ?_; dsimp only)); refine box_event ?hg (N := 5) ?hd (cs := #[.string Zu, .string Zv, .string Zq]) (t := 28) ?hr ?_; (case hd => rfl); (case hg => rfl); (case hr => first | (go_simp; done) | (go_simp; rfl)); intro Ze hg w5 hbox hb; have n0_ := jA (blk_below (g := Zb) (o := .cells #[.slice Zz Zf.length ZA, .slice ZB Zg.length ZC, .slice ZD Zh.length ZE, .slice ZF Zi.length ZG, .slice ZH Zj.length ZI, .slice ZJ Zk.length ZK, .slice ZL Zl.length ZM, .slice ZN Zm.length ZO, .slice ZP Zn.length ZQ, .slice ZR Zo.length ZS, .slice Zs Zc.length Zt] 39 (0, 0)) (by (with_reducible repeat (first | refine blk_drewN ?_ _ | refine blk_drew ?_ | refine blk_alloc ?_ _)); exact Za.out) hb); have n1_ := jA (below_step (by repeat (first | (with_reducible first | exact HB.out | apply below_alloc | apply pw_below_drewN | apply below_drew1 | refine below_set ?_ Zr.out) | exact HB.out)) hb); have n2_ := jA (hbox); have n3_ := jA ((by rw [hg]; exact (below_size (by repeat (first | (with_reducible first | exact HB.out | apply below_alloc | apply pw_below_drewN | apply below_drew1 | refine below_set ?_ Zr.out) | exact HB.out))) : w.heap.size ≤ Ze)); have n4_ := jA ((by rw [hg]; exact (below_size (by repeat (first | (with_reducible first | exact HB.out | apply below_alloc | apply pw_below_drewN | apply below_drew1 | refine below_set ?_ Zr.out) | exact HB.out))) : w.heap.size ≤ Ze)); have n5_ := jA ((by rw [hg]; exact Nat.ne_of_lt (blk_lt (g := Zb) (o := .cells #[.slice Zz Zf.length ZA, .slice ZB Zg.length ZC, .slice ZD Zh.length ZE, .slice ZF Zi.length ZG, .slice ZH Zj.length ZI, .slice ZJ Zk.length ZK, .slice ZL Zl.length ZM, .slice ZN Zm.length ZO, .slice ZP Zn.length ZQ, .slice ZR Zo.length ZS, .slice Zs Zc.length Zt] 39 (0, 0)) (by (with_reducible repeat (first | refine blk_drewN ?_ _ | refine blk_drew ?_ | refine blk_alloc ?_ _)); exact Za.out)) : Zb ≠ Ze)); have n6_ := jA ((by rw [hg]; exact Nat.ne_of_gt (blk_lt (g := Zb) (o := .cells #[.slice Zz Zf.length ZA, .slice ZB Zg.length ZC, .slice ZD Zh.length ZE, .slice ZF Zi.length ZG, .slice ZH Zj.length ZI, .slice ZJ Zk.length ZK, .slice ZL Zl.length ZM, .slice ZN Zm.length ZO, .slice ZP Zn.length ZQ, .slice ZR Zo.length ZS, .slice Zs Zc.length Zt] 39 (0, 0)) (by (with_reducible repeat (first | refine blk_drewN ?_ _ | refine blk_drew ?_ | refine blk_alloc ?_ _)); exact Za.out)) : Ze ≠ Zb)); clear Za; clear HB; have Za := n0_; have HB := n1_; have Zd := n2_; have XX := n3_; have Zy := n4_; have Z7 := n5_; have Z8 := n6_; clear n0_ n1_ n2_ n3_ n4_ n5_ n6_; clear hb hbox hg)))
 go_loopg [7, 8] k (fun kq v7 v8 w' => ∃ (YD : Bool) (Zp : Int), v7 = .bool YD ∧ v8 = .int .i64 Zp ∧ Aside0 (gatehouseref08_may.l0 kq l1 YD Zp Zf Zg Zh Zi Zj Zk Zl Zm Zn Zo Zc Zu Zv Zq = some r) ∧ Aside0 (kq ≤ k) ∧ Aside0 (w'.heap[Zb]? = some (.cells #[(.slice Zz Zf.length ZA), (.slice ZB Zg.length ZC), (.slice ZD Zh.length ZE), (.slice ZF Zi.length ZG), (.slice ZH Zj.length ZI), (.slice ZJ Zk.length ZK), (.slice ZL Zl.length ZM), (.slice ZN Zm.length ZO), (.slice ZP Zn.length ZQ), (.slice ZR Zo.length ZS), (.slice Zs Zc.length Zt)] 39 (0, 0))) ∧ Aside0 (w'.heap[Ze]? = some (.cells #[.string Zu, .string Zv, .string Zq] 28 (0, 0))) ∧ Aside0 (Below w.heap.size w w'))
 case atStart => exact ⟨(false), (0), (by first | rfl | (simp; done) | (simp [*]; done)), (by first | rfl | (simp; done) | (simp [*]; done)), H', ⟨Nat.le_refl _⟩, ⟨by (with_reducible repeat (first | refine blk_drewN ?_ _ | refine blk_drew ?_ | refine blk_alloc ?_ _)); exact Za.out⟩, ⟨by (with_reducible repeat (first | refine blk_drewN ?_ _ | refine blk_drew ?_ | refine blk_alloc ?_ _)); exact Zd.out⟩, ⟨by repeat (first | (with_reducible first | exact HB.out | apply below_alloc | apply pw_below_drewN | apply below_drew1 | refine below_set ?_ Zr.out | refine below_set ?_ Zy.out) | exact HB.out)⟩⟩
 case round =>
  clear H'
  try clear c1
  try clear p2
  obtain ⟨YD, Zp, rfl, rfl, HA, HK1, Za, Zd, HB⟩ := hrel
  cases gk with
  | zero => exact absurd HA.out (by simp [gatehouseref08_may.l0])
  | succ k1 =>
   have H := HA.out
   clear HA
   simp only [gatehouseref08_may.l0] at H
   by_cases c6 : Zp < (l1.length : Int)
   ·rw [if_pos c6] at H
    have c6b0 : decide (Zp < (l1.length : Int)) = true := decide_eq_true c6
    clear c6
    by_cases c7 : 0 ≤ Zp
    ·rw [if_pos c7] at H
     have c7b0 : decide (0 ≤ Zp) = true := decide_eq_true c7
     clear c7
     replace H := Option.bind_eq_some_iff.mp H
     obtain ⟨Xd, A80, H⟩ := H
     replace H : (if Xd = true then (gatehouseref08_may.j1 k1 l1 YD Zp true Zf Zg Zh Zi Zj Zk Zl Zm Zn Zo Zc Zu Zv Zq) else (gatehouseref08_may.j1 k1 l1 YD Zp ((((rd_T78 l1 Zp).f3).length : Int) == 0) Zf Zg Zh Zi Zj Zk Zl Zm Zn Zo Zc Zu Zv Zq)) = some r := H
     have A8 := jA A80
     clear A80
     have HC9 := jA H
     clear H
     have Xq : 0 ≤ (Zp : Int) := of_decide_eq_true (by first | (with_reducible assumption) | assumption)
     have Xr : Zp < (l1.length : Int) := of_decide_eq_true (by first | (with_reducible assumption) | assumption)
     obtain ⟨Xn, V7, V8, V9, YE, YF, YG, YH, YI, YJ, Xg, Xh⟩ := at_T78 HR1.out Zp Xq Xr
     cases V9
     replace YE := (HB.out.cell (World.block_lt_of_cell? w _ YE)).trans YE
     replace YF := (HB.out.cell (World.block_lt_of_cell? w _ YF)).trans YF
     replace YG := (HB.out.cell (World.block_lt_of_cell? w _ YG)).trans YG
     replace YH := (HB.out.cell (World.block_lt_of_cell? w _ YH)).trans YH
     replace YI := (HB.out.cell (World.block_lt_of_cell? w _ YI)).trans YI
     replace YJ := (HB.out.cell (World.block_lt_of_cell? w _ YJ)).trans YJ
     have Xb := jA Xh
     have Xc := jA Xg
     clear Xh Xg
     replace Xq := eq_true Xq
     replace Xr := eq_true Xr
     have Je := Z8.out
     have Jf := Z7.out
     have Xs : wr.cell? ⟨Ze, 0, none⟩ = some (.string Zu) := (blk_cell Zd.out 0).trans rfl
     have Xt : wr.cell? ⟨Ze, 1, none⟩ = some (.string Zv) := (blk_cell Zd.out 1).trans rfl
     have Xu : wr.cell? ⟨Ze, 2, none⟩ = some (.string Zq) := (blk_cell Zd.out 2).trans rfl
     have Xv := blk_frozen Zd.out 0
     have Xw := blk_frozen Zd.out 1
     have Xx := blk_frozen Zd.out 2
     go_upto_region 6 with (first | (go_at_call 79; (with_reducible refine (gatehouseref08_in.calls k1 _ _ ((rd_T78 l1 Zp).f3) Zq Xd _ ?Zw ?Zx A8.out).mono ?_); (case Zw => repeat (first | exact (Kd.C_below Xb.out HB.out) | (with_reducible refine Kd.C_alloc ?_ _) | (with_reducible refine Kd.C_drewN ?_ _) | (with_reducible refine Kd.C_drew ?_))); (case Zx => exact Xc.out); rintro e w' ⟨rfl, ⟨nd, rfl⟩⟩; (try first | exact ⟨rfl, _, World.drewN_drewN _ _ _⟩ | exact ⟨rfl, _, Eq.trans (World.drewN_drewN _ _ _) (congrArg (World.drewN _) (Nat.add_assoc _ _ _))⟩)))
     repeat (go_quiet (first | (go_at_call 79; (with_reducible refine (gatehouseref08_in.calls k1 _ _ ((rd_T78 l1 Zp).f3) Zq Xd _ ?Zw ?Zx A8.out).mono ?_); (case Zw => repeat (first | exact (Kd.C_below Xb.out HB.out) | (with_reducible refine Kd.C_alloc ?_ _) | (with_reducible refine Kd.C_drewN ?_ _) | (with_reducible refine Kd.C_drew ?_))); (case Zx => exact Xc.out); rintro e w' ⟨rfl, ⟨nd, rfl⟩⟩; (try first | exact ⟨rfl, _, World.drewN_drewN _ _ _⟩ | exact ⟨rfl, _, Eq.trans (World.drewN_drewN _ _ _) (congrArg (World.drewN _) (Nat.add_assoc _ _ _))⟩))); go_upto_region 6 with (first | (go_at_call 79; (with_reducible refine (gatehouseref08_in.calls k1 _ _ ((rd_T78 l1 Zp).f3) Zq Xd _ ?Zw ?Zx A8.out).mono ?_); (case Zw => repeat (first | exact (Kd.C_below Xb.out HB.out) | (with_reducible refine Kd.C_alloc ?_ _) | (with_reducible refine Kd.C_drewN ?_ _) | (with_reducible refine Kd.C_drew ?_))); (case Zx => exact Xc.out); rintro e w' ⟨rfl, ⟨nd, rfl⟩⟩; (try first | exact ⟨rfl, _, World.drewN_drewN _ _ _⟩ | exact ⟨rfl, _, Eq.trans (World.drewN_drewN _ _ _) (congrArg (World.drewN _) (Nat.add_assoc _ _ _))⟩))))
     (try simp only [Act.put, Jq, Jr, Js])
     go_cut [34] (fun v34 wc => ∃ (kq : Nat) (Xi : Bool), v34 = .bool Xi ∧ Aside0 (gatehouseref08_may.j1 kq l1 YD Zp Xi Zf Zg Zh Zi Zj Zk Zl Zm Zn Zo Zc Zu Zv Zq = some r) ∧ Aside0 (kq ≤ k1) ∧ Aside0 (wc.heap[Zb]? = some (.cells #[(.slice Zz Zf.length ZA), (.slice ZB Zg.length ZC), (.slice ZD Zh.length ZE), (.slice ZF Zi.length ZG), (.slice ZH Zj.length ZI), (.slice ZJ Zk.length ZK), (.slice ZL Zl.length ZM), (.slice ZN Zm.length ZO), (.slice ZP Zn.length ZQ), (.slice ZR Zo.length ZS), (.slice Zs Zc.length Zt)] 39 (0, 0))) ∧ Aside0 (wc.heap[Ze]? = some (.cells #[.string Zu, .string Zv, .string Zq] 28 (0, 0))) ∧ Aside0 (Below w.heap.size w wc))
     case first =>
      have H := HC9.out
      clear HC9
      by_cases c12 : Xd = true
      ·subst c12
       have H1 : (gatehouseref08_may.j1 k1 l1 YD Zp true Zf Zg Zh Zi Zj Zk Zl Zm Zn Zo Zc Zu Zv Zq) = some r := by rw [if_pos rfl] at H; exact H
       clear H
       have H := H1
       clear H1
       have H' := jA H
       clear H
       go_wp2
       repeat (go_quiet (fail); try go_wp2)
       go_meet
       case rel => exact ⟨_, (true), (by first | rfl | (simp; done) | (simp [*]; done)), H', ⟨by have := HK1.out; first | omega | exact Nat.le_refl _⟩, ⟨by (with_reducible repeat (first | refine blk_drewN ?_ _ | refine blk_drew ?_ | refine blk_alloc ?_ _)); exact Za.out⟩, ⟨by (with_reducible repeat (first | refine blk_drewN ?_ _ | refine blk_drew ?_ | refine blk_alloc ?_ _)); exact Zd.out⟩, ⟨by repeat (first | (with_reducible first | exact HB.out | apply below_alloc | apply pw_below_drewN | apply below_drew1 | refine below_set ?_ Zr.out | refine below_set ?_ Zy.out) | exact HB.out)⟩⟩
      ·replace c12 := Bool.eq_false_iff.mpr c12
       subst c12
       have H1 : (gatehouseref08_may.j1 k1 l1 YD Zp ((((rd_T78 l1 Zp).f3).length : Int) == 0) Zf Zg Zh Zi Zj Zk Zl Zm Zn Zo Zc Zu Zv Zq) = some r := by rw [if_neg (show ¬ (false = true) by decide)] at H; exact H
       clear H
       have H := H1
       clear H1
       have H' := jA H
       clear H
       have Xy : 0 ≤ (Zp : Int) := of_decide_eq_true (by first | (with_reducible assumption) | assumption)
       have Xz : Zp < (l1.length : Int) := of_decide_eq_true (by first | (with_reducible assumption) | assumption)
       obtain ⟨X6, Ja, Jc, Jd, YK, YL, YM, YN, YO, YP, Xj, Xk⟩ := at_T78 HR1.out Zp Xy Xz
       obtain rfl : Xn = X6 := (by injection Jd)
       replace YK := (HB.out.cell (World.block_lt_of_cell? w _ YK)).trans YK
       replace YL := (HB.out.cell (World.block_lt_of_cell? w _ YL)).trans YL
       replace YM := (HB.out.cell (World.block_lt_of_cell? w _ YM)).trans YM
       replace YN := (HB.out.cell (World.block_lt_of_cell? w _ YN)).trans YN
       replace YO := (HB.out.cell (World.block_lt_of_cell? w _ YO)).trans YO
       replace YP := (HB.out.cell (World.block_lt_of_cell? w _ YP)).trans YP
       have Vd := jA Xk
       have Ve := jA Xj
       clear Xk Xj
       replace Xy := eq_true Xy
       replace Xz := eq_true Xz
       go_wp2
       repeat (go_quiet (fail); try go_wp2)
       go_meet
       case rel => exact ⟨_, (((((rd_T78 l1 Zp).f3).length : Int) == 0)), (by first | rfl | (simp; done) | (simp [*]; done)), H', ⟨by have := HK1.out; first | omega | exact Nat.le_refl _⟩, ⟨by (with_reducible repeat (first | refine blk_drewN ?_ _ | refine blk_drew ?_ | refine blk_alloc ?_ _)); exact Za.out⟩, ⟨by (with_reducible repeat (first | refine blk_drewN ?_ _ | refine blk_drew ?_ | refine blk_alloc ?_ _)); exact Zd.out⟩, ⟨by repeat (first | (with_reducible first | exact HB.out | apply below_alloc | apply pw_below_drewN | apply below_drew1 | refine below_set ?_ Zr.out | refine below_set ?_ Zy.out) | exact HB.out)⟩⟩
     case rest =>
      clear HC9
      try clear c1
      try clear c2
      try clear p2
      try clear q2
      try clear hx2
      try clear c6
      try clear c6b0
      try clear c7
      try clear c7b0
      try clear c10
      try clear c12
      try clear Xs
      try clear Xt
      try clear Xu
      try clear Xv
      try clear Xw
      try clear Xx
      try clear YE
      try clear YF
      try clear YG
      try clear YH
      try clear YI
      try clear YJ
      try clear YK
      try clear YL
      try clear YM
      try clear YN
      try clear YO
      try clear YP
      try clear p2
      try clear Xq
      try clear Xy
      try clear Xr
      try clear Xz
      obtain ⟨kq, Xi, rfl, HA, HJ8, Za, Zd, HB⟩ := hcut
      cases kq with
      | zero => exact absurd HA.out (by simp [gatehouseref08_may.j1])
      | succ kj8 =>
       have H := HA.out
       clear HA
       simp only [gatehouseref08_may.j1] at H
       by_cases c13 : Xi = true
       ·subst c13
        have H1 : (if 0 ≤ Zp then (if Zp < (l1.length : Int) then (if (rd_T78 l1 Zp).f0 = true then (some false) else (gatehouseref08_may.l0 kj8 l1 true (wrap64 (Zp + 1)) Zf Zg Zh Zi Zj Zk Zl Zm Zn Zo Zc Zu Zv Zq)) else (none)) else (none)) = some r := by rw [if_pos rfl] at H; exact H
        clear H
        have H := H1
        clear H1
        by_cases c14 : 0 ≤ Zp
        ·rw [if_pos c14] at H
         have c14b0 : decide (0 ≤ Zp) = true := decide_eq_true c14
         clear c14
         by_cases c15 : Zp < (l1.length : Int)
         ·rw [if_pos c15] at H
          have c15b0 : decide (Zp < (l1.length : Int)) = true := decide_eq_true c15
          clear c15
          obtain ⟨X7, Xo⟩ : ∃ b_ : Bool, b_ = ((rd_T78 l1 Zp).f0) := ⟨_, rfl⟩
          replace H : (if X7 = true then (some false) else (gatehouseref08_may.l0 kj8 l1 true (wrap64 (Zp + 1)) Zf Zg Zh Zi Zj Zk Zl Zm Zn Zo Zc Zu Zv Zq)) = some r := by rw [← Xo] at H; exact H
          have XY := jA Xo
          clear Xo
          by_cases c17 : X7 = true
          ·subst c17
           have H1 : (some false) = some r := by rw [if_pos rfl] at H; exact H
           clear H
           have H := H1
           clear H1
           obtain rfl := Option.some.inj H
           have Xe : 0 ≤ (Zp : Int) := of_decide_eq_true (by first | (with_reducible assumption) | assumption)
           have Xf : Zp < (l1.length : Int) := of_decide_eq_true (by first | (with_reducible assumption) | assumption)
           obtain ⟨Xp, XZ, X0, X5, ZT, Ya, Yb, Yc, Yd, Ye, Yz, YA⟩ := at_T78 HR1.out Zp Xe Xf
           (try rw [← XY.out] at ZT)
           obtain rfl : Xn = Xp := (by injection X5)
           replace ZT := (HB.out.cell (World.block_lt_of_cell? w _ ZT)).trans ZT
           replace Ya := (HB.out.cell (World.block_lt_of_cell? w _ Ya)).trans Ya
           replace Yb := (HB.out.cell (World.block_lt_of_cell? w _ Yb)).trans Yb
           replace Yc := (HB.out.cell (World.block_lt_of_cell? w _ Yc)).trans Yc
           replace Yd := (HB.out.cell (World.block_lt_of_cell? w _ Yd)).trans Yd
           replace Ye := (HB.out.cell (World.block_lt_of_cell? w _ Ye)).trans Ye
           have XA := jA YA
           have XB := jA Yz
           clear YA Yz
           replace Xe := eq_true Xe
           replace Xf := eq_true Xf
           go_wp2
           repeat (go_quiet (fail); try go_wp2)
           go_ret
           exact ⟨by first | rfl | (simp [errW_none, errW_some] <;> rfl) | (simp [*, errW_none, errW_some] <;> rfl), by repeat (first | (with_reducible first | exact HB.out | apply below_alloc | apply pw_below_drewN | apply below_drew1 | refine below_set ?_ Zr.out | refine below_set ?_ Zy.out) | exact HB.out)⟩
          ·replace c17 := Bool.eq_false_iff.mpr c17
           subst c17
           have H1 : (gatehouseref08_may.l0 kj8 l1 true (wrap64 (Zp + 1)) Zf Zg Zh Zi Zj Zk Zl Zm Zn Zo Zc Zu Zv Zq) = some r := by rw [if_neg (show ¬ (false = true) by decide)] at H; exact H
           clear H
           have H := H1
           clear H1
           have H' := jA H
           clear H
           have Xe : 0 ≤ (Zp : Int) := of_decide_eq_true (by first | (with_reducible assumption) | assumption)
           have Xf : Zp < (l1.length : Int) := of_decide_eq_true (by first | (with_reducible assumption) | assumption)
           obtain ⟨Xp, XZ, X0, X5, ZT, Ya, Yb, Yc, Yd, Ye, Yz, YA⟩ := at_T78 HR1.out Zp Xe Xf
           (try rw [← XY.out] at ZT)
           obtain rfl : Xn = Xp := (by injection X5)
           replace ZT := (HB.out.cell (World.block_lt_of_cell? w _ ZT)).trans ZT
           replace Ya := (HB.out.cell (World.block_lt_of_cell? w _ Ya)).trans Ya
           replace Yb := (HB.out.cell (World.block_lt_of_cell? w _ Yb)).trans Yb
           replace Yc := (HB.out.cell (World.block_lt_of_cell? w _ Yc)).trans Yc
           replace Yd := (HB.out.cell (World.block_lt_of_cell? w _ Yd)).trans Yd
           replace Ye := (HB.out.cell (World.block_lt_of_cell? w _ Ye)).trans Ye
           have XA := jA YA
           have XB := jA Yz
           clear YA Yz
           replace Xe := eq_true Xe
           replace Xf := eq_true Xf
           go_wp2
           repeat (go_quiet (fail); try go_wp2)
           go_roundg kj8
           case measure => have := HK1.out; have := HJ8.out; omega
           case rel => exact ⟨(true), (wrap64 (Zp + 1)), (by first | rfl | (simp; done) | (simp [*]; done)), (by first | rfl | (simp; done) | (simp [*]; done)), H', ⟨by have := HK1.out; have := HJ8.out; omega⟩, ⟨by (with_reducible repeat (first | refine blk_drewN ?_ _ | refine blk_drew ?_ | refine blk_alloc ?_ _)); exact Za.out⟩, ⟨by (with_reducible repeat (first | refine blk_drewN ?_ _ | refine blk_drew ?_ | refine blk_alloc ?_ _)); exact Zd.out⟩, ⟨by repeat (first | (with_reducible first | exact HB.out | apply below_alloc | apply pw_below_drewN | apply below_drew1 | refine below_set ?_ Zr.out | refine below_set ?_ Zy.out) | exact HB.out)⟩⟩
         ·rw [if_neg c15] at H
          exact absurd H (by simp)
        ·rw [if_neg c14] at H
         exact absurd H (by simp)
       ·replace c13 := Bool.eq_false_iff.mpr c13
        subst c13
        have H1 : (gatehouseref08_may.l0 kj8 l1 YD (wrap64 (Zp + 1)) Zf Zg Zh Zi Zj Zk Zl Zm Zn Zo Zc Zu Zv Zq) = some r := by rw [if_neg (show ¬ (false = true) by decide)] at H; exact H
        clear H
        have H := H1
        clear H1
        have H' := jA H
        clear H
        go_wp2
        repeat (go_quiet (fail); try go_wp2)
        go_roundg kj8
        case measure => have := HK1.out; have := HJ8.out; omega
        case rel => exact ⟨(YD), (wrap64 (Zp + 1)), (by first | rfl | (simp; done) | (simp [*]; done)), (by first | rfl | (simp; done) | (simp [*]; done)), H', ⟨by have := HK1.out; have := HJ8.out; omega⟩, ⟨by (with_reducible repeat (first | refine blk_drewN ?_ _ | refine blk_drew ?_ | refine blk_alloc ?_ _)); exact Za.out⟩, ⟨by (with_reducible repeat (first | refine blk_drewN ?_ _ | refine blk_drew ?_ | refine blk_alloc ?_ _)); exact Zd.out⟩, ⟨by repeat (first | (with_reducible first | exact HB.out | apply below_alloc | apply pw_below_drewN | apply below_drew1 | refine below_set ?_ Zr.out | refine below_set ?_ Zy.out) | exact HB.out)⟩⟩
    ·rw [if_neg c7] at H
     exact absurd H (by simp)
   ·rw [if_neg c6] at H
    have c6b0 : decide (Zp < (l1.length : Int)) = false := decide_eq_false c6
    clear c6
    replace H := Option.bind_eq_some_iff.mp H
    obtain ⟨YQ, X8, H⟩ := H
    replace H : (if YD = true then (some (!YQ)) else (some false)) = some r := H
    have A18 := jA X8
    clear X8
    by_cases c19 : YD = true
    ·subst c19
     have H1 : (some (!YQ)) = some r := by rw [if_pos rfl] at H; exact H
     clear H
     have H := H1
     clear H1
     obtain rfl := Option.some.inj H
     have Jg := Z7.out
     have Jh := Z8.out
     have Vf : wr.cell? ⟨Zb, 0, none⟩ = some (.slice Zz Zf.length ZA) := (blk_cell Za.out 0).trans rfl
     have Vg : wr.cell? ⟨Zb, 1, none⟩ = some (.slice ZB Zg.length ZC) := (blk_cell Za.out 1).trans rfl
     have Vh : wr.cell? ⟨Zb, 2, none⟩ = some (.slice ZD Zh.length ZE) := (blk_cell Za.out 2).trans rfl
     have Vi : wr.cell? ⟨Zb, 3, none⟩ = some (.slice ZF Zi.length ZG) := (blk_cell Za.out 3).trans rfl
     have Vj : wr.cell? ⟨Zb, 4, none⟩ = some (.slice ZH Zj.length ZI) := (blk_cell Za.out 4).trans rfl
     have Vk : wr.cell? ⟨Zb, 5, none⟩ = some (.slice ZJ Zk.length ZK) := (blk_cell Za.out 5).trans rfl
     have Vl : wr.cell? ⟨Zb, 6, none⟩ = some (.slice ZL Zl.length ZM) := (blk_cell Za.out 6).trans rfl
     have Vm : wr.cell? ⟨Zb, 7, none⟩ = some (.slice ZN Zm.length ZO) := (blk_cell Za.out 7).trans rfl
     have Vn : wr.cell? ⟨Zb, 8, none⟩ = some (.slice ZP Zn.length ZQ) := (blk_cell Za.out 8).trans rfl
     have Vo : wr.cell? ⟨Zb, 9, none⟩ = some (.slice ZR Zo.length ZS) := (blk_cell Za.out 9).trans rfl
     have X9 : wr.cell? ⟨Zb, 10, none⟩ = some (.slice Zs Zc.length Zt) := (blk_cell Za.out 10).trans rfl
     have Vp := blk_frozen Za.out 0
     have Vq := blk_frozen Za.out 1
     have Vr := blk_frozen Za.out 2
     have Vs := blk_frozen Za.out 3
     have Vt := blk_frozen Za.out 4
     have Vu := blk_frozen Za.out 5
     have Vv := blk_frozen Za.out 6
     have Vw := blk_frozen Za.out 7
     have Vx := blk_frozen Za.out 8
     have Vy := blk_frozen Za.out 9
     have Va := blk_frozen Za.out 10
     have Vz : wr.cell? ⟨Ze, 0, none⟩ = some (.string Zu) := (blk_cell Zd.out 0).trans rfl
     have VA : wr.cell? ⟨Ze, 1, none⟩ = some (.string Zv) := (blk_cell Zd.out 1).trans rfl
     have VB : wr.cell? ⟨Ze, 2, none⟩ = some (.string Zq) := (blk_cell Zd.out 2).trans rfl
     have VC := blk_frozen Zd.out 0
     have VD := blk_frozen Zd.out 1
     have VE := blk_frozen Zd.out 2
     go_wp2_with (first | (go_at_call 81; (with_reducible refine (gatehouseref08_excepted.calls k1 _ _ Zf _ _ Zg _ _ Zh _ _ Zi _ _ Zj _ _ Zk _ _ Zl _ _ Zm _ _ Zn _ _ Zo _ _ Zc Zu Zv Zq YQ _ ?Zw ?Zx ?Yf ?Yg ?Yh ?Yi ?Yj ?Yk ?Yl ?ZU ?ZV ?ZW ?ZX ?ZY ?ZZ ?Z0 ?Z1 ?Z2 ?Z3 ?Z4 ?Z5 ?Z6 A18.out).mono ?_); (case Zw => repeat (first | exact (Kd.C_below YR.out HB.out) | (with_reducible refine Kd.C_alloc ?_ _) | (with_reducible refine Kd.C_drewN ?_ _) | (with_reducible refine Kd.C_drew ?_))); (case Zx => exact YS.out); (case Yf => repeat (first | exact (Kd.C_below YT.out HB.out) | (with_reducible refine Kd.C_alloc ?_ _) | (with_reducible refine Kd.C_drewN ?_ _) | (with_reducible refine Kd.C_drew ?_))); (case Yg => exact YU.out); (case Yh => repeat (first | exact (Kd.C_below YV.out HB.out) | (with_reducible refine Kd.C_alloc ?_ _) | (with_reducible refine Kd.C_drewN ?_ _) | (with_reducible refine Kd.C_drew ?_))); (case Yi => exact YW.out); (case Yj => repeat (first | exact (Kd.C_below YX.out HB.out) | (with_reducible refine Kd.C_alloc ?_ _) | (with_reducible refine Kd.C_drewN ?_ _) | (with_reducible refine Kd.C_drew ?_))); (case Yk => exact YY.out); (case Yl => repeat (first | exact (Kd.C_below YZ.out HB.out) | (with_reducible refine Kd.C_alloc ?_ _) | (with_reducible refine Kd.C_drewN ?_ _) | (with_reducible refine Kd.C_drew ?_))); (case ZU => exact Y0.out); (case ZV => repeat (first | exact (Kd.C_below Y1.out HB.out) | (with_reducible refine Kd.C_alloc ?_ _) | (with_reducible refine Kd.C_drewN ?_ _) | (with_reducible refine Kd.C_drew ?_))); (case ZW => exact Y2.out); (case ZX => repeat (first | exact (Kd.C_below Y3.out HB.out) | (with_reducible refine Kd.C_alloc ?_ _) | (with_reducible refine Kd.C_drewN ?_ _) | (with_reducible refine Kd.C_drew ?_))); (case ZY => exact Y4.out); (case ZZ => repeat (first | exact (Kd.C_below Y5.out HB.out) | (with_reducible refine Kd.C_alloc ?_ _) | (with_reducible refine Kd.C_drewN ?_ _) | (with_reducible refine Kd.C_drew ?_))); (case Z0 => exact Y6.out); (case Z1 => repeat (first | exact (Kd.C_below Y7.out HB.out) | (with_reducible refine Kd.C_alloc ?_ _) | (with_reducible refine Kd.C_drewN ?_ _) | (with_reducible refine Kd.C_drew ?_))); (case Z2 => exact Y8.out); (case Z3 => repeat (first | exact (Kd.C_below Y9.out HB.out) | (with_reducible refine Kd.C_alloc ?_ _) | (with_reducible refine Kd.C_drewN ?_ _) | (with_reducible refine Kd.C_drew ?_))); (case Z4 => exact Xa.out); (case Z5 => repeat (first | exact (Kd.C_below YB.out HB.out) | (with_reducible refine Kd.C_alloc ?_ _) | (with_reducible refine Kd.C_drewN ?_ _) | (with_reducible refine Kd.C_drew ?_))); (case Z6 => exact YC.out); rintro e w23 ⟨rfl, hb⟩; have n0_ := jA (blk_below (g := Zb) (o := .cells #[.slice Zz Zf.length ZA, .slice ZB Zg.length ZC, .slice ZD Zh.length ZE, .slice ZF Zi.length ZG, .slice ZH Zj.length ZI, .slice ZJ Zk.length ZK, .slice ZL Zl.length ZM, .slice ZN Zm.length ZO, .slice ZP Zn.length ZQ, .slice ZR Zo.length ZS, .slice Zs Zc.length Zt] 39 (0, 0)) (by (with_reducible repeat (first | refine blk_drewN ?_ _ | refine blk_drew ?_ | refine blk_alloc ?_ _)); exact Za.out) hb); have n1_ := jA (blk_below (g := Ze) (o := .cells #[.string Zu, .string Zv, .string Zq] 28 (0, 0)) (by (with_reducible repeat (first | refine blk_drewN ?_ _ | refine blk_drew ?_ | refine blk_alloc ?_ _)); exact Zd.out) hb); have n2_ := jA (below_step (by repeat (first | (with_reducible first | exact HB.out | apply below_alloc | apply pw_below_drewN | apply below_drew1 | refine below_set ?_ Zr.out | refine below_set ?_ Zy.out) | exact HB.out)) hb); clear Za; clear Zd; clear HB; have Za := n0_; have Zd := n1_; have HB := n2_; clear n0_ n1_ n2_; (try clear hb); (try clear hb2); (try clear hk); (try clear hi)))
     repeat (go_quiet (first | (go_at_call 81; (with_reducible refine (gatehouseref08_excepted.calls k1 _ _ Zf _ _ Zg _ _ Zh _ _ Zi _ _ Zj _ _ Zk _ _ Zl _ _ Zm _ _ Zn _ _ Zo _ _ Zc Zu Zv Zq YQ _ ?Zw ?Zx ?Yf ?Yg ?Yh ?Yi ?Yj ?Yk ?Yl ?ZU ?ZV ?ZW ?ZX ?ZY ?ZZ ?Z0 ?Z1 ?Z2 ?Z3 ?Z4 ?Z5 ?Z6 A18.out).mono ?_); (case Zw => repeat (first | exact (Kd.C_below YR.out HB.out) | (with_reducible refine Kd.C_alloc ?_ _) | (with_reducible refine Kd.C_drewN ?_ _) | (with_reducible refine Kd.C_drew ?_))); (case Zx => exact YS.out); (case Yf => repeat (first | exact (Kd.C_below YT.out HB.out) | (with_reducible refine Kd.C_alloc ?_ _) | (with_reducible refine Kd.C_drewN ?_ _) | (with_reducible refine Kd.C_drew ?_))); (case Yg => exact YU.out); (case Yh => repeat (first | exact (Kd.C_below YV.out HB.out) | (with_reducible refine Kd.C_alloc ?_ _) | (with_reducible refine Kd.C_drewN ?_ _) | (with_reducible refine Kd.C_drew ?_))); (case Yi => exact YW.out); (case Yj => repeat (first | exact (Kd.C_below YX.out HB.out) | (with_reducible refine Kd.C_alloc ?_ _) | (with_reducible refine Kd.C_drewN ?_ _) | (with_reducible refine Kd.C_drew ?_))); (case Yk => exact YY.out); (case Yl => repeat (first | exact (Kd.C_below YZ.out HB.out) | (with_reducible refine Kd.C_alloc ?_ _) | (with_reducible refine Kd.C_drewN ?_ _) | (with_reducible refine Kd.C_drew ?_))); (case ZU => exact Y0.out); (case ZV => repeat (first | exact (Kd.C_below Y1.out HB.out) | (with_reducible refine Kd.C_alloc ?_ _) | (with_reducible refine Kd.C_drewN ?_ _) | (with_reducible refine Kd.C_drew ?_))); (case ZW => exact Y2.out); (case ZX => repeat (first | exact (Kd.C_below Y3.out HB.out) | (with_reducible refine Kd.C_alloc ?_ _) | (with_reducible refine Kd.C_drewN ?_ _) | (with_reducible refine Kd.C_drew ?_))); (case ZY => exact Y4.out); (case ZZ => repeat (first | exact (Kd.C_below Y5.out HB.out) | (with_reducible refine Kd.C_alloc ?_ _) | (with_reducible refine Kd.C_drewN ?_ _) | (with_reducible refine Kd.C_drew ?_))); (case Z0 => exact Y6.out); (case Z1 => repeat (first | exact (Kd.C_below Y7.out HB.out) | (with_reducible refine Kd.C_alloc ?_ _) | (with_reducible refine Kd.C_drewN ?_ _) | (with_reducible refine Kd.C_drew ?_))); (case Z2 => exact Y8.out); (case Z3 => repeat (first | exact (Kd.C_below Y9.out HB.out) | (with_reducible refine Kd.C_alloc ?_ _) | (with_reducible refine Kd.C_drewN ?_ _) | (with_reducible refine Kd.C_drew ?_))); (case Z4 => exact Xa.out); (case Z5 => repeat (first | exact (Kd.C_below YB.out HB.out) | (with_reducible refine Kd.C_alloc ?_ _) | (with_reducible refine Kd.C_drewN ?_ _) | (with_reducible refine Kd.C_drew ?_))); (case Z6 => exact YC.out); rintro e w23 ⟨rfl, hb⟩; have n0_ := jA (blk_below (g := Zb) (o := .cells #[.slice Zz Zf.length ZA, .slice ZB Zg.length ZC, .slice ZD Zh.length ZE, .slice ZF Zi.length ZG, .slice ZH Zj.length ZI, .slice ZJ Zk.length ZK, .slice ZL Zl.length ZM, .slice ZN Zm.length ZO, .slice ZP Zn.length ZQ, .slice ZR Zo.length ZS, .slice Zs Zc.length Zt] 39 (0, 0)) (by (with_reducible repeat (first | refine blk_drewN ?_ _ | refine blk_drew ?_ | refine blk_alloc ?_ _)); exact Za.out) hb); have n1_ := jA (blk_below (g := Ze) (o := .cells #[.string Zu, .string Zv, .string Zq] 28 (0, 0)) (by (with_reducible repeat (first | refine blk_drewN ?_ _ | refine blk_drew ?_ | refine blk_alloc ?_ _)); exact Zd.out) hb); have n2_ := jA (below_step (by repeat (first | (with_reducible first | exact HB.out | apply below_alloc | apply pw_below_drewN | apply below_drew1 | refine below_set ?_ Zr.out | refine below_set ?_ Zy.out) | exact HB.out)) hb); clear Za; clear Zd; clear HB; have Za := n0_; have Zd := n1_; have HB := n2_; clear n0_ n1_ n2_; (try clear hb); (try clear hb2); (try clear hk); (try clear hi))); try go_wp2_with (first | (go_at_call 81; (with_reducible refine (gatehouseref08_excepted.calls k1 _ _ Zf _ _ Zg _ _ Zh _ _ Zi _ _ Zj _ _ Zk _ _ Zl _ _ Zm _ _ Zn _ _ Zo _ _ Zc Zu Zv Zq YQ _ ?Zw ?Zx ?Yf ?Yg ?Yh ?Yi ?Yj ?Yk ?Yl ?ZU ?ZV ?ZW ?ZX ?ZY ?ZZ ?Z0 ?Z1 ?Z2 ?Z3 ?Z4 ?Z5 ?Z6 A18.out).mono ?_); (case Zw => repeat (first | exact (Kd.C_below YR.out HB.out) | (with_reducible refine Kd.C_alloc ?_ _) | (with_reducible refine Kd.C_drewN ?_ _) | (with_reducible refine Kd.C_drew ?_))); (case Zx => exact YS.out); (case Yf => repeat (first | exact (Kd.C_below YT.out HB.out) | (with_reducible refine Kd.C_alloc ?_ _) | (with_reducible refine Kd.C_drewN ?_ _) | (with_reducible refine Kd.C_drew ?_))); (case Yg => exact YU.out); (case Yh => repeat (first | exact (Kd.C_below YV.out HB.out) | (with_reducible refine Kd.C_alloc ?_ _) | (with_reducible refine Kd.C_drewN ?_ _) | (with_reducible refine Kd.C_drew ?_))); (case Yi => exact YW.out); (case Yj => repeat (first | exact (Kd.C_below YX.out HB.out) | (with_reducible refine Kd.C_alloc ?_ _) | (with_reducible refine Kd.C_drewN ?_ _) | (with_reducible refine Kd.C_drew ?_))); (case Yk => exact YY.out); (case Yl => repeat (first | exact (Kd.C_below YZ.out HB.out) | (with_reducible refine Kd.C_alloc ?_ _) | (with_reducible refine Kd.C_drewN ?_ _) | (with_reducible refine Kd.C_drew ?_))); (case ZU => exact Y0.out); (case ZV => repeat (first | exact (Kd.C_below Y1.out HB.out) | (with_reducible refine Kd.C_alloc ?_ _) | (with_reducible refine Kd.C_drewN ?_ _) | (with_reducible refine Kd.C_drew ?_))); (case ZW => exact Y2.out); (case ZX => repeat (first | exact (Kd.C_below Y3.out HB.out) | (with_reducible refine Kd.C_alloc ?_ _) | (with_reducible refine Kd.C_drewN ?_ _) | (with_reducible refine Kd.C_drew ?_))); (case ZY => exact Y4.out); (case ZZ => repeat (first | exact (Kd.C_below Y5.out HB.out) | (with_reducible refine Kd.C_alloc ?_ _) | (with_reducible refine Kd.C_drewN ?_ _) | (with_reducible refine Kd.C_drew ?_))); (case Z0 => exact Y6.out); (case Z1 => repeat (first | exact (Kd.C_below Y7.out HB.out) | (with_reducible refine Kd.C_alloc ?_ _) | (with_reducible refine Kd.C_drewN ?_ _) | (with_reducible refine Kd.C_drew ?_))); (case Z2 => exact Y8.out); (case Z3 => repeat (first | exact (Kd.C_below Y9.out HB.out) | (with_reducible refine Kd.C_alloc ?_ _) | (with_reducible refine Kd.C_drewN ?_ _) | (with_reducible refine Kd.C_drew ?_))); (case Z4 => exact Xa.out); (case Z5 => repeat (first | exact (Kd.C_below YB.out HB.out) | (with_reducible refine Kd.C_alloc ?_ _) | (with_reducible refine Kd.C_drewN ?_ _) | (with_reducible refine Kd.C_drew ?_))); (case Z6 => exact YC.out); rintro e w23 ⟨rfl, hb⟩; have n0_ := jA (blk_below (g := Zb) (o := .cells #[.slice Zz Zf.length ZA, .slice ZB Zg.length ZC, .slice ZD Zh.length ZE, .slice ZF Zi.length ZG, .slice ZH Zj.length ZI, .slice ZJ Zk.length ZK, .slice ZL Zl.length ZM, .slice ZN Zm.length ZO, .slice ZP Zn.length ZQ, .slice ZR Zo.length ZS, .slice Zs Zc.length Zt] 39 (0, 0)) (by (with_reducible repeat (first | refine blk_drewN ?_ _ | refine blk_drew ?_ | refine blk_alloc ?_ _)); exact Za.out) hb); have n1_ := jA (blk_below (g := Ze) (o := .cells #[.string Zu, .string Zv, .string Zq] 28 (0, 0)) (by (with_reducible repeat (first | refine blk_drewN ?_ _ | refine blk_drew ?_ | refine blk_alloc ?_ _)); exact Zd.out) hb); have n2_ := jA (below_step (by repeat (first | (with_reducible first | exact HB.out | apply below_alloc | apply pw_below_drewN | apply below_drew1 | refine below_set ?_ Zr.out | refine below_set ?_ Zy.out) | exact HB.out)) hb); clear Za; clear Zd; clear HB; have Za := n0_; have Zd := n1_; have HB := n2_; clear n0_ n1_ n2_; (try clear hb); (try clear hb2); (try clear hk); (try clear hi))))
     go_ret
     exact ⟨by first | rfl | (simp [errW_none, errW_some] <;> rfl) | (simp [*, errW_none, errW_some] <;> rfl), by repeat (first | (with_reducible first | exact HB.out | apply below_alloc | apply pw_below_drewN | apply below_drew1 | refine below_set ?_ Zr.out | refine below_set ?_ Zy.out) | exact HB.out)⟩
    ·replace c19 := Bool.eq_false_iff.mpr c19
     subst c19
     have H1 : (some false) = some r := by rw [if_neg (show ¬ (false = true) by decide)] at H; exact H
     clear H
     have H := H1
     clear H1
     obtain rfl := Option.some.inj H
     have Ji := Z7.out
     have Jj := Z8.out
     have VF : wr.cell? ⟨Zb, 0, none⟩ = some (.slice Zz Zf.length ZA) := (blk_cell Za.out 0).trans rfl
     have VG : wr.cell? ⟨Zb, 1, none⟩ = some (.slice ZB Zg.length ZC) := (blk_cell Za.out 1).trans rfl
     have VH : wr.cell? ⟨Zb, 2, none⟩ = some (.slice ZD Zh.length ZE) := (blk_cell Za.out 2).trans rfl
     have VI : wr.cell? ⟨Zb, 3, none⟩ = some (.slice ZF Zi.length ZG) := (blk_cell Za.out 3).trans rfl
     have VJ : wr.cell? ⟨Zb, 4, none⟩ = some (.slice ZH Zj.length ZI) := (blk_cell Za.out 4).trans rfl
     have VK : wr.cell? ⟨Zb, 5, none⟩ = some (.slice ZJ Zk.length ZK) := (blk_cell Za.out 5).trans rfl
     have VL : wr.cell? ⟨Zb, 6, none⟩ = some (.slice ZL Zl.length ZM) := (blk_cell Za.out 6).trans rfl
     have VM : wr.cell? ⟨Zb, 7, none⟩ = some (.slice ZN Zm.length ZO) := (blk_cell Za.out 7).trans rfl
     have VN : wr.cell? ⟨Zb, 8, none⟩ = some (.slice ZP Zn.length ZQ) := (blk_cell Za.out 8).trans rfl
     have VO : wr.cell? ⟨Zb, 9, none⟩ = some (.slice ZR Zo.length ZS) := (blk_cell Za.out 9).trans rfl
     have Vb : wr.cell? ⟨Zb, 10, none⟩ = some (.slice Zs Zc.length Zt) := (blk_cell Za.out 10).trans rfl
     have VP := blk_frozen Za.out 0
     have VQ := blk_frozen Za.out 1
     have VR := blk_frozen Za.out 2
     have VS := blk_frozen Za.out 3
     have VT := blk_frozen Za.out 4
     have VU := blk_frozen Za.out 5
     have VV := blk_frozen Za.out 6
     have VW := blk_frozen Za.out 7
     have VX := blk_frozen Za.out 8
     have VY := blk_frozen Za.out 9
     have Vc := blk_frozen Za.out 10
     have VZ : wr.cell? ⟨Ze, 0, none⟩ = some (.string Zu) := (blk_cell Zd.out 0).trans rfl
     have V0 : wr.cell? ⟨Ze, 1, none⟩ = some (.string Zv) := (blk_cell Zd.out 1).trans rfl
     have V1 : wr.cell? ⟨Ze, 2, none⟩ = some (.string Zq) := (blk_cell Zd.out 2).trans rfl
     have V4 := blk_frozen Zd.out 0
     have V5 := blk_frozen Zd.out 1
     have V6 := blk_frozen Zd.out 2
     go_wp2_with (first | (go_at_call 81; (with_reducible refine (gatehouseref08_excepted.calls k1 _ _ Zf _ _ Zg _ _ Zh _ _ Zi _ _ Zj _ _ Zk _ _ Zl _ _ Zm _ _ Zn _ _ Zo _ _ Zc Zu Zv Zq YQ _ ?Zw ?Zx ?Yf ?Yg ?Yh ?Yi ?Yj ?Yk ?Yl ?ZU ?ZV ?ZW ?ZX ?ZY ?ZZ ?Z0 ?Z1 ?Z2 ?Z3 ?Z4 ?Z5 ?Z6 A18.out).mono ?_); (case Zw => repeat (first | exact (Kd.C_below YR.out HB.out) | (with_reducible refine Kd.C_alloc ?_ _) | (with_reducible refine Kd.C_drewN ?_ _) | (with_reducible refine Kd.C_drew ?_))); (case Zx => exact YS.out); (case Yf => repeat (first | exact (Kd.C_below YT.out HB.out) | (with_reducible refine Kd.C_alloc ?_ _) | (with_reducible refine Kd.C_drewN ?_ _) | (with_reducible refine Kd.C_drew ?_))); (case Yg => exact YU.out); (case Yh => repeat (first | exact (Kd.C_below YV.out HB.out) | (with_reducible refine Kd.C_alloc ?_ _) | (with_reducible refine Kd.C_drewN ?_ _) | (with_reducible refine Kd.C_drew ?_))); (case Yi => exact YW.out); (case Yj => repeat (first | exact (Kd.C_below YX.out HB.out) | (with_reducible refine Kd.C_alloc ?_ _) | (with_reducible refine Kd.C_drewN ?_ _) | (with_reducible refine Kd.C_drew ?_))); (case Yk => exact YY.out); (case Yl => repeat (first | exact (Kd.C_below YZ.out HB.out) | (with_reducible refine Kd.C_alloc ?_ _) | (with_reducible refine Kd.C_drewN ?_ _) | (with_reducible refine Kd.C_drew ?_))); (case ZU => exact Y0.out); (case ZV => repeat (first | exact (Kd.C_below Y1.out HB.out) | (with_reducible refine Kd.C_alloc ?_ _) | (with_reducible refine Kd.C_drewN ?_ _) | (with_reducible refine Kd.C_drew ?_))); (case ZW => exact Y2.out); (case ZX => repeat (first | exact (Kd.C_below Y3.out HB.out) | (with_reducible refine Kd.C_alloc ?_ _) | (with_reducible refine Kd.C_drewN ?_ _) | (with_reducible refine Kd.C_drew ?_))); (case ZY => exact Y4.out); (case ZZ => repeat (first | exact (Kd.C_below Y5.out HB.out) | (with_reducible refine Kd.C_alloc ?_ _) | (with_reducible refine Kd.C_drewN ?_ _) | (with_reducible refine Kd.C_drew ?_))); (case Z0 => exact Y6.out); (case Z1 => repeat (first | exact (Kd.C_below Y7.out HB.out) | (with_reducible refine Kd.C_alloc ?_ _) | (with_reducible refine Kd.C_drewN ?_ _) | (with_reducible refine Kd.C_drew ?_))); (case Z2 => exact Y8.out); (case Z3 => repeat (first | exact (Kd.C_below Y9.out HB.out) | (with_reducible refine Kd.C_alloc ?_ _) | (with_reducible refine Kd.C_drewN ?_ _) | (with_reducible refine Kd.C_drew ?_))); (case Z4 => exact Xa.out); (case Z5 => repeat (first | exact (Kd.C_below YB.out HB.out) | (with_reducible refine Kd.C_alloc ?_ _) | (with_reducible refine Kd.C_drewN ?_ _) | (with_reducible refine Kd.C_drew ?_))); (case Z6 => exact YC.out); rintro e w27 ⟨rfl, hb⟩; have n0_ := jA (blk_below (g := Zb) (o := .cells #[.slice Zz Zf.length ZA, .slice ZB Zg.length ZC, .slice ZD Zh.length ZE, .slice ZF Zi.length ZG, .slice ZH Zj.length ZI, .slice ZJ Zk.length ZK, .slice ZL Zl.length ZM, .slice ZN Zm.length ZO, .slice ZP Zn.length ZQ, .slice ZR Zo.length ZS, .slice Zs Zc.length Zt] 39 (0, 0)) (by (with_reducible repeat (first | refine blk_drewN ?_ _ | refine blk_drew ?_ | refine blk_alloc ?_ _)); exact Za.out) hb); have n1_ := jA (blk_below (g := Ze) (o := .cells #[.string Zu, .string Zv, .string Zq] 28 (0, 0)) (by (with_reducible repeat (first | refine blk_drewN ?_ _ | refine blk_drew ?_ | refine blk_alloc ?_ _)); exact Zd.out) hb); have n2_ := jA (below_step (by repeat (first | (with_reducible first | exact HB.out | apply below_alloc | apply pw_below_drewN | apply below_drew1 | refine below_set ?_ Zr.out | refine below_set ?_ Zy.out) | exact HB.out)) hb); clear Za; clear Zd; clear HB; have Za := n0_; have Zd := n1_; have HB := n2_; clear n0_ n1_ n2_; (try clear hb); (try clear hb2); (try clear hk); (try clear hi)))
     repeat (go_quiet (first | (go_at_call 81; (with_reducible refine (gatehouseref08_excepted.calls k1 _ _ Zf _ _ Zg _ _ Zh _ _ Zi _ _ Zj _ _ Zk _ _ Zl _ _ Zm _ _ Zn _ _ Zo _ _ Zc Zu Zv Zq YQ _ ?Zw ?Zx ?Yf ?Yg ?Yh ?Yi ?Yj ?Yk ?Yl ?ZU ?ZV ?ZW ?ZX ?ZY ?ZZ ?Z0 ?Z1 ?Z2 ?Z3 ?Z4 ?Z5 ?Z6 A18.out).mono ?_); (case Zw => repeat (first | exact (Kd.C_below YR.out HB.out) | (with_reducible refine Kd.C_alloc ?_ _) | (with_reducible refine Kd.C_drewN ?_ _) | (with_reducible refine Kd.C_drew ?_))); (case Zx => exact YS.out); (case Yf => repeat (first | exact (Kd.C_below YT.out HB.out) | (with_reducible refine Kd.C_alloc ?_ _) | (with_reducible refine Kd.C_drewN ?_ _) | (with_reducible refine Kd.C_drew ?_))); (case Yg => exact YU.out); (case Yh => repeat (first | exact (Kd.C_below YV.out HB.out) | (with_reducible refine Kd.C_alloc ?_ _) | (with_reducible refine Kd.C_drewN ?_ _) | (with_reducible refine Kd.C_drew ?_))); (case Yi => exact YW.out); (case Yj => repeat (first | exact (Kd.C_below YX.out HB.out) | (with_reducible refine Kd.C_alloc ?_ _) | (with_reducible refine Kd.C_drewN ?_ _) | (with_reducible refine Kd.C_drew ?_))); (case Yk => exact YY.out); (case Yl => repeat (first | exact (Kd.C_below YZ.out HB.out) | (with_reducible refine Kd.C_alloc ?_ _) | (with_reducible refine Kd.C_drewN ?_ _) | (with_reducible refine Kd.C_drew ?_))); (case ZU => exact Y0.out); (case ZV => repeat (first | exact (Kd.C_below Y1.out HB.out) | (with_reducible refine Kd.C_alloc ?_ _) | (with_reducible refine Kd.C_drewN ?_ _) | (with_reducible refine Kd.C_drew ?_))); (case ZW => exact Y2.out); (case ZX => repeat (first | exact (Kd.C_below Y3.out HB.out) | (with_reducible refine Kd.C_alloc ?_ _) | (with_reducible refine Kd.C_drewN ?_ _) | (with_reducible refine Kd.C_drew ?_))); (case ZY => exact Y4.out); (case ZZ => repeat (first | exact (Kd.C_below Y5.out HB.out) | (with_reducible refine Kd.C_alloc ?_ _) | (with_reducible refine Kd.C_drewN ?_ _) | (with_reducible refine Kd.C_drew ?_))); (case Z0 => exact Y6.out); (case Z1 => repeat (first | exact (Kd.C_below Y7.out HB.out) | (with_reducible refine Kd.C_alloc ?_ _) | (with_reducible refine Kd.C_drewN ?_ _) | (with_reducible refine Kd.C_drew ?_))); (case Z2 => exact Y8.out); (case Z3 => repeat (first | exact (Kd.C_below Y9.out HB.out) | (with_reducible refine Kd.C_alloc ?_ _) | (with_reducible refine Kd.C_drewN ?_ _) | (with_reducible refine Kd.C_drew ?_))); (case Z4 => exact Xa.out); (case Z5 => repeat (first | exact (Kd.C_below YB.out HB.out) | (with_reducible refine Kd.C_alloc ?_ _) | (with_reducible refine Kd.C_drewN ?_ _) | (with_reducible refine Kd.C_drew ?_))); (case Z6 => exact YC.out); rintro e w27 ⟨rfl, hb⟩; have n0_ := jA (blk_below (g := Zb) (o := .cells #[.slice Zz Zf.length ZA, .slice ZB Zg.length ZC, .slice ZD Zh.length ZE, .slice ZF Zi.length ZG, .slice ZH Zj.length ZI, .slice ZJ Zk.length ZK, .slice ZL Zl.length ZM, .slice ZN Zm.length ZO, .slice ZP Zn.length ZQ, .slice ZR Zo.length ZS, .slice Zs Zc.length Zt] 39 (0, 0)) (by (with_reducible repeat (first | refine blk_drewN ?_ _ | refine blk_drew ?_ | refine blk_alloc ?_ _)); exact Za.out) hb); have n1_ := jA (blk_below (g := Ze) (o := .cells #[.string Zu, .string Zv, .string Zq] 28 (0, 0)) (by (with_reducible repeat (first | refine blk_drewN ?_ _ | refine blk_drew ?_ | refine blk_alloc ?_ _)); exact Zd.out) hb); have n2_ := jA (below_step (by repeat (first | (with_reducible first | exact HB.out | apply below_alloc | apply pw_below_drewN | apply below_drew1 | refine below_set ?_ Zr.out | refine below_set ?_ Zy.out) | exact HB.out)) hb); clear Za; clear Zd; clear HB; have Za := n0_; have Zd := n1_; have HB := n2_; clear n0_ n1_ n2_; (try clear hb); (try clear hb2); (try clear hk); (try clear hi))); try go_wp2_with (first | (go_at_call 81; (with_reducible refine (gatehouseref08_excepted.calls k1 _ _ Zf _ _ Zg _ _ Zh _ _ Zi _ _ Zj _ _ Zk _ _ Zl _ _ Zm _ _ Zn _ _ Zo _ _ Zc Zu Zv Zq YQ _ ?Zw ?Zx ?Yf ?Yg ?Yh ?Yi ?Yj ?Yk ?Yl ?ZU ?ZV ?ZW ?ZX ?ZY ?ZZ ?Z0 ?Z1 ?Z2 ?Z3 ?Z4 ?Z5 ?Z6 A18.out).mono ?_); (case Zw => repeat (first | exact (Kd.C_below YR.out HB.out) | (with_reducible refine Kd.C_alloc ?_ _) | (with_reducible refine Kd.C_drewN ?_ _) | (with_reducible refine Kd.C_drew ?_))); (case Zx => exact YS.out); (case Yf => repeat (first | exact (Kd.C_below YT.out HB.out) | (with_reducible refine Kd.C_alloc ?_ _) | (with_reducible refine Kd.C_drewN ?_ _) | (with_reducible refine Kd.C_drew ?_))); (case Yg => exact YU.out); (case Yh => repeat (first | exact (Kd.C_below YV.out HB.out) | (with_reducible refine Kd.C_alloc ?_ _) | (with_reducible refine Kd.C_drewN ?_ _) | (with_reducible refine Kd.C_drew ?_))); (case Yi => exact YW.out); (case Yj => repeat (first | exact (Kd.C_below YX.out HB.out) | (with_reducible refine Kd.C_alloc ?_ _) | (with_reducible refine Kd.C_drewN ?_ _) | (with_reducible refine Kd.C_drew ?_))); (case Yk => exact YY.out); (case Yl => repeat (first | exact (Kd.C_below YZ.out HB.out) | (with_reducible refine Kd.C_alloc ?_ _) | (with_reducible refine Kd.C_drewN ?_ _) | (with_reducible refine Kd.C_drew ?_))); (case ZU => exact Y0.out); (case ZV => repeat (first | exact (Kd.C_below Y1.out HB.out) | (with_reducible refine Kd.C_alloc ?_ _) | (with_reducible refine Kd.C_drewN ?_ _) | (with_reducible refine Kd.C_drew ?_))); (case ZW => exact Y2.out); (case ZX => repeat (first | exact (Kd.C_below Y3.out HB.out) | (with_reducible refine Kd.C_alloc ?_ _) | (with_reducible refine Kd.C_drewN ?_ _) | (with_reducible refine Kd.C_drew ?_))); (case ZY => exact Y4.out); (case ZZ => repeat (first | exact (Kd.C_below Y5.out HB.out) | (with_reducible refine Kd.C_alloc ?_ _) | (with_reducible refine Kd.C_drewN ?_ _) | (with_reducible refine Kd.C_drew ?_))); (case Z0 => exact Y6.out); (case Z1 => repeat (first | exact (Kd.C_below Y7.out HB.out) | (with_reducible refine Kd.C_alloc ?_ _) | (with_reducible refine Kd.C_drewN ?_ _) | (with_reducible refine Kd.C_drew ?_))); (case Z2 => exact Y8.out); (case Z3 => repeat (first | exact (Kd.C_below Y9.out HB.out) | (with_reducible refine Kd.C_alloc ?_ _) | (with_reducible refine Kd.C_drewN ?_ _) | (with_reducible refine Kd.C_drew ?_))); (case Z4 => exact Xa.out); (case Z5 => repeat (first | exact (Kd.C_below YB.out HB.out) | (with_reducible refine Kd.C_alloc ?_ _) | (with_reducible refine Kd.C_drewN ?_ _) | (with_reducible refine Kd.C_drew ?_))); (case Z6 => exact YC.out); rintro e w27 ⟨rfl, hb⟩; have n0_ := jA (blk_below (g := Zb) (o := .cells #[.slice Zz Zf.length ZA, .slice ZB Zg.length ZC, .slice ZD Zh.length ZE, .slice ZF Zi.length ZG, .slice ZH Zj.length ZI, .slice ZJ Zk.length ZK, .slice ZL Zl.length ZM, .slice ZN Zm.length ZO, .slice ZP Zn.length ZQ, .slice ZR Zo.length ZS, .slice Zs Zc.length Zt] 39 (0, 0)) (by (with_reducible repeat (first | refine blk_drewN ?_ _ | refine blk_drew ?_ | refine blk_alloc ?_ _)); exact Za.out) hb); have n1_ := jA (blk_below (g := Ze) (o := .cells #[.string Zu, .string Zv, .string Zq] 28 (0, 0)) (by (with_reducible repeat (first | refine blk_drewN ?_ _ | refine blk_drew ?_ | refine blk_alloc ?_ _)); exact Zd.out) hb); have n2_ := jA (below_step (by repeat (first | (with_reducible first | exact HB.out | apply below_alloc | apply pw_below_drewN | apply below_drew1 | refine below_set ?_ Zr.out | refine below_set ?_ Zy.out) | exact HB.out)) hb); clear Za; clear Zd; clear HB; have Za := n0_; have Zd := n1_; have HB := n2_; clear n0_ n1_ n2_; (try clear hb); (try clear hb2); (try clear hk); (try clear hi))))
     go_ret
     exact ⟨by first | rfl | (simp [errW_none, errW_some] <;> rfl) | (simp [*, errW_none, errW_some] <;> rfl), by repeat (first | (with_reducible first | exact HB.out | apply below_alloc | apply pw_below_drewN | apply below_drew1 | refine below_set ?_ Zr.out | refine below_set ?_ Zy.out) | exact HB.out)⟩
end Go.Proofs.Ythaiodklfoegiaa.PG
-- PRINTED BY print.sh 35421559b90ae4d0a3588c463048766b98c2df88dd9212a6774a882060cdf62d: not written by this session
namespace Go.Proofs.Ythaiodklfoegiaa.PGraphDecide
open Go.RowKit YthaiodklfoegiaaW.PrintWords YthaiodklfoegiaaW.PrintLast YthaiodklfoegiaaW.PrintMore
attribute [local go_sem] max2_int min2_int max_two min_two max_three min_three max_four min_four
def errW : Option Int → Value
 | none => .nilIface
 | some c => .iface 0 (.int .i64 c)
theorem errW_none : errW none = .nilIface := rfl
theorem errW_some (c : Int) : errW (some c) = .iface 0 (.int .i64 c) := rfl
-- the values' own types
def rd_L3 (xs : List (List Int)) (i : Int) : (List Int) := xs.getD i.toNat ([] : List Int)
theorem at_L3 {w : World} {A : Option Addr} {n : Nat} {xs : List (List Int)} (h : Kd.C (Kd.slice 31 (Kd.int .u16)) w A n xs) (i : Int) (h0 : 0 ≤ i) (h1 : i < n) : ∃ ad A0 c0, A = some ad ∧ w.cell? (ad.add i.toNat) = some (.slice A0 (rd_L3 xs i).length c0) ∧ (rd_L3 xs i).length ≤ c0 ∧ (Kd.int .u16).C w A0 (rd_L3 xs i).length (rd_L3 xs i) := by
 obtain ⟨ad, c, e, _, hK, hc0⟩ := Kd.C_get h ([] : List Int) i h0 h1
 have hc : ∀ j u, c[j]? = some u → w.cell? (ad.add (i.toNat * 1 + j)) = some u := hc0
 obtain ⟨A0, c0, rfl, l0, g0⟩ := hK
 exact ⟨ad, A0, c0, e, by have hq := hc 0 _ rfl; rwa [Nat.mul_one, Nat.add_zero] at hq, l0, g0⟩
end Go.Proofs.Ythaiodklfoegiaa.PGraphDecide
-- PRINTED BY print.sh 35421559b90ae4d0a3588c463048766b98c2df88dd9212a6774a882060cdf62d: not written by this session
namespace Go.Proofs.Ythaiodklfoegiaa.PGraphDecide
open Go.RowKit YthaiodklfoegiaaW.PrintWords YthaiodklfoegiaaW.PrintLast YthaiodklfoegiaaW.PrintMore
attribute [local go_sem] max2_int min2_int max_two min_two max_three min_three max_four min_four
def slices_Index_string_string.l0 : Nat → List ByteArray → ByteArray → Int → Int → Option (Int)
 | 0, _, _, _, _ => none
 | k + 1, x0, x1, x7, x8 => if x8 < x7 then (if 0 ≤ x8 then (if x8 < (x0.length : Int) then (if x1.toList = (rdOf ByteArray.empty x0 x8).toList then (some x8) else (slices_Index_string_string.l0 k x0 x1 x7 (wrap64 (x8 + 1)))) else (none)) else (none)) else (some (-1))
def slices_Index_string_string.f (k : Nat) (l0 : List ByteArray) (a1 : ByteArray) : Option (Int) := slices_Index_string_string.l0 k l0 a1 (l0.length : Int) 0
theorem slices_Index_string_string.calls (k : Nat) (A0 : Option Addr) (c0 : Nat) (l0 : List ByteArray) (a1 : ByteArray) (r : Int) (w : World) (hr0 : Kd.C Kd.string w A0 l0.length l0) (hc0 : l0.length ≤ c0) (h : slices_Index_string_string.f k l0 a1 = some r) :
  Calls Try.prog 31 #[.slice A0 l0.length c0, .string a1] w fun e w' => e = .returned (.int .i64 r) ∧ Drawn0 w w' := by
 have HR0 := jA hr0
 have HC0 := jA hc0
 clear hr0 hc0
 have H : (slices_Index_string_string.l0 k l0 a1 (l0.length : Int) 0) = some r := h
 clear h
 have H' := jA H
 clear H
 go_enter Try.func31, Try.ntmps31
 go_wp2
 go_loopg [8] k (fun kq v8 w' => ∃ (Za : Int), v8 = .int .i64 Za ∧ Aside0 (slices_Index_string_string.l0 kq l0 a1 (l0.length : Int) Za = some r) ∧ Aside0 (kq ≤ k) ∧ Drawn0 w w')
 case atStart => exact ⟨(0), (by first | rfl | (simp; done) | (simp [*]; done)), H', ⟨Nat.le_refl _⟩, by repeat (first | exact Drawn0.refl _ | apply Drawn0.step)⟩
 case round =>
  clear H'
  try clear p2
  obtain ⟨Za, rfl, HA, HK1, ⟨m1, rfl⟩⟩ := hrel
  cases gk with
  | zero => exact absurd HA.out (by simp [slices_Index_string_string.l0])
  | succ k1 =>
   have H := HA.out
   clear HA
   simp only [slices_Index_string_string.l0] at H
   by_cases c3 : Za < (l0.length : Int)
   ·rw [if_pos c3] at H
    have c3b0 : decide (Za < (l0.length : Int)) = true := decide_eq_true c3
    clear c3
    by_cases c4 : 0 ≤ Za
    ·rw [if_pos c4] at H
     have c4b0 : decide (0 ≤ Za) = true := decide_eq_true c4
     clear c4
     by_cases c5 : Za < (l0.length : Int)
     ·rw [if_pos c5] at H
      have c5b0 : decide (Za < (l0.length : Int)) = true := decide_eq_true c5
      clear c5
      by_cases c6 : a1.toList = (rdOf ByteArray.empty l0 Za).toList
      ·rw [if_pos c6] at H
       have c6b0 : (a1.toList == (rdOf ByteArray.empty l0 Za).toList) = true := beq_iff_eq.mpr c6
       have c6b1 : (a1.toList != (rdOf ByteArray.empty l0 Za).toList) = false := bne_eq_false_iff_eq.mpr c6
       clear c6
       obtain rfl := Option.some.inj H
       have Zb : 0 ≤ (Za : Int) := of_decide_eq_true (by first | (with_reducible assumption) | assumption)
       have Zc : Za < (l0.length : Int) := of_decide_eq_true (by first | (with_reducible assumption) | assumption)
       obtain ⟨Zf, Ze, Zd⟩ := Kd.at_string HR0.out Za Zb Zc
       cases Ze
       replace Zb := eq_true Zb
       replace Zc := eq_true Zc
       go_wp2
       go_ret
       exact ⟨by first | rfl | (simp; done) | (simp [*]; done), by repeat (first | exact Drawn0.refl _ | apply Drawn0.step)⟩
      ·rw [if_neg c6] at H
       have c6b0 : (a1.toList == (rdOf ByteArray.empty l0 Za).toList) = false := beq_eq_false_iff_ne.mpr c6
       have c6b1 : (a1.toList != (rdOf ByteArray.empty l0 Za).toList) = true := bne_iff_ne.mpr c6
       have H' := jA H
       clear H
       have Zb : 0 ≤ (Za : Int) := of_decide_eq_true (by first | (with_reducible assumption) | assumption)
       have Zc : Za < (l0.length : Int) := of_decide_eq_true (by first | (with_reducible assumption) | assumption)
       obtain ⟨Zf, Ze, Zd⟩ := Kd.at_string HR0.out Za Zb Zc
       cases Ze
       replace Zb := eq_true Zb
       replace Zc := eq_true Zc
       go_wp2
       go_roundg k1
       case measure => have := HK1.out; omega
       case rel => exact ⟨(wrap64 (Za + 1)), (by first | rfl | (simp; done) | (simp [*]; done)), H', ⟨by have := HK1.out; omega⟩, by repeat (first | exact Drawn0.refl _ | apply Drawn0.step)⟩
     ·rw [if_neg c5] at H
      exact absurd H (by simp)
    ·rw [if_neg c4] at H
     exact absurd H (by simp)
   ·rw [if_neg c3] at H
    have c3b0 : decide (Za < (l0.length : Int)) = false := decide_eq_false c3
    clear c3
    obtain rfl := Option.some.inj H
    go_wp2
    go_ret
    exact ⟨by first | rfl | (simp; done) | (simp [*]; done), by repeat (first | exact Drawn0.refl _ | apply Drawn0.step)⟩
end Go.Proofs.Ythaiodklfoegiaa.PGraphDecide
-- PRINTED BY print.sh 35421559b90ae4d0a3588c463048766b98c2df88dd9212a6774a882060cdf62d: not written by this session
namespace Go.Proofs.Ythaiodklfoegiaa.PGraphDecide
open Go.RowKit YthaiodklfoegiaaW.PrintWords YthaiodklfoegiaaW.PrintLast YthaiodklfoegiaaW.PrintMore
attribute [local go_sem] max2_int min2_int max_two min_two max_three min_three max_four min_four
def gatehouselaw11_GraphDecide.T1 : Bool × List (List Nat × List Nat) := (true, [([], []), ([], []), ([0, 1], [0, 1]), ([], []), ([], []), ([3, 4, 2], [3, 4]), ([2, 5], [2, 5]), ([6, 5, 0, 1, 2, 3, 4, 5, 6], [6])])
def gatehouselaw11_GraphDecide.B1 : List Nat := [0, 0, 3, 0, 0, 31, 63, 127]
end Go.Proofs.Ythaiodklfoegiaa.PGraphDecide
/- The plain law of GraphDecide: what the program's Decide and the document's answer compute over lists is the same, for every graph and triple. -/
namespace Go.Proofs.Ythaiodklfoegiaa.DecPure
open Go.RowKit PGraphDecide YthaiodklfoegiaaW.PrintWords YthaiodklfoegiaaW.PrintMore
def pos : List ByteArray → ByteArray → Nat → Int
 | [], _, _ => -1
 | x :: r, s, n => if x.toList = s.toList then n else pos r s (n + 1)
theorem pos_range : ∀ (l : List ByteArray) (s : ByteArray) (n : Nat), pos l s n = -1 ∨ ((n : Int) ≤ pos l s n ∧ pos l s n < n + l.length)
 | [], _, _ => .inl rfl
 | x :: r, s, n => by
  simp only [pos]
  split
  ·right; simp; omega
  ·rcases pos_range r s (n + 1) with h | h
   ·exact .inl h
   ·right; simp at h ⊢; omega
theorem wrap_small {i : Int} (h0 : -9223372036854775808 ≤ i) (h1 : i ≤ 9223372036854775807) : wrap64 i = i := by
 unfold wrap64; omega
theorem index_l0 (l : List ByteArray) (s : ByteArray) (hl : l.length ≤ 9223372036854775807) (d : Nat) : ∀ (k n : Nat), n + d = l.length → d < k →
  slices_Index_string_string.l0 k l s l.length n = some (pos (l.drop n) s n) := by
 induction d with
 | zero =>
  intro k n hn hk
  obtain ⟨k, rfl⟩ : ∃ m, k = m + 1 := ⟨k - 1, by omega⟩
  rw [List.drop_eq_nil_of_le (by omega)]
  simp only [slices_Index_string_string.l0]
  rw [if_neg (by omega)]; rfl
 | succ d ih =>
  intro k n hn hk
  obtain ⟨k, rfl⟩ : ∃ m, k = m + 1 := ⟨k - 1, by omega⟩
  have hlt : n < l.length := by omega
  rw [List.drop_eq_getElem_cons hlt]
  simp only [slices_Index_string_string.l0, pos]
  rw [if_pos (by omega), if_pos (by omega), if_pos (by omega)]
  have hg : rdOf ByteArray.empty l (n : Int) = l[n] := by simp [rdOf, hlt]
  rw [hg]
  by_cases h : s.toList = l[n].toList
  ·rw [if_pos h, if_pos h.symm]
  ·rw [if_neg h, if_neg (fun e => h e.symm), wrap_small (by omega) (by omega)]
   exact ih k (n + 1) (by omega) (by omega)
theorem index_f (k : Nat) (l : List ByteArray) (s : ByteArray) (hl : l.length ≤ 9223372036854775807) (hk : l.length < k) : slices_Index_string_string.f k l s = some (pos l s 0) :=
 index_l0 l s hl l.length k 0 (by omega) hk
def says (of on : List Int) (masks : List (List Int)) (i j k : Int) : Bool :=
 if 0 ≤ i ∧ i < of.length ∧ 0 ≤ j ∧ j < on.length ∧ 0 ≤ k ∧ k ≤ 15 ∧ 1 ≤ rd of i ∧ rd of i ≤ masks.length ∧ 1 ≤ rd on j ∧ rd on j ≤ (rd_L3 masks (rd of i - 1)).length then
  ((rd (rd_L3 masks (rd of i - 1)) (rd on j - 1)) / 2 ^ k.toNat) % 2 == 1
 else false
section
variable (k : Nat) (la ls lo : List ByteArray) (of on : List Int) (ms : List (List Int)) (s o a : ByteArray)
end
end Go.Proofs.Ythaiodklfoegiaa.DecPure
/- Classes of lines, and the graph of a matrix: plain. -/
namespace Go.Proofs.Ythaiodklfoegiaa.CPure
section
variable {α : Type} [DecidableEq α]
def one1 (L : List α) (x : α) : List α := if x ∈ L then L else L ++ [x]
def uniq (ls : List α) : List α := ls.foldl one1 []
theorem uniq_snoc (ls : List α) (x : α) : uniq (ls ++ [x]) = one1 (uniq ls) x := by simp [uniq]
theorem mem_one1 {L : List α} {x y : α} : y ∈ one1 L x ↔ y ∈ L ∨ y = x := by
 unfold one1
 split
 ·rename_i h
  constructor
  ·exact .inl
  ·rintro (h' | rfl)
   ·exact h'
   ·exact h
 ·rw [List.mem_append, List.mem_singleton]
omit [DecidableEq α] in
theorem snoc_ind {P : List α → Prop} (h0 : P []) (h1 : ∀ l x, P l → P (l ++ [x])) (l : List α) : P l := by
 have : ∀ n, ∀ l : List α, l.length = n → P l := by
  intro n
  induction n with
  | zero => intro l hl; rw [List.length_eq_zero_iff.1 hl]; exact h0
  | succ n ih =>
   intro l hl
   have hne : l ≠ [] := by intro e; subst e; simp at hl
   rw [← List.dropLast_concat_getLast hne]
   exact h1 _ _ (ih _ (by simp; omega))
 exact this _ l rfl
theorem mem_uniq {ls : List α} {y : α} : y ∈ uniq ls ↔ y ∈ ls := by
 refine snoc_ind (P := fun ls => y ∈ uniq ls ↔ y ∈ ls) (by simp [uniq]) (fun l x ih => ?_) ls
 rw [uniq_snoc, mem_one1, ih, List.mem_append, List.mem_singleton]
theorem uniq_length (ls : List α) : (uniq ls).length ≤ ls.length := by
 refine snoc_ind (P := fun ls => (uniq ls).length ≤ ls.length) (by simp [uniq]) (fun l x ih => ?_) ls
 rw [uniq_snoc, one1]
 split
 ·simp; omega
 ·simpa using ih
def clsN (ls : List α) (x : α) : Nat := (uniq ls).idxOf x
def num (ls : List α) (x : α) : Int := ((clsN ls x + 1 : Nat) : Int)
def numsOf (ls : List α) : List Int := ls.map (num ls)
def firstsN (ls : List α) : List Nat := (uniq ls).map (fun x => ls.idxOf x)
def firstsOf (ls : List α) : List Int := (firstsN ls).map (fun (n : Nat) => (n : Int))
theorem num_old {ls : List α} {x y : α} (h : y ∈ ls) : num (ls ++ [x]) y = num ls y := by
 unfold num clsN
 rw [uniq_snoc, one1]
 split
 ·rfl
 ·rw [List.idxOf_append, if_pos (mem_uniq.2 h)]
theorem num_new {ls : List α} {x : α} (h : x ∉ ls) : num (ls ++ [x]) x = (((uniq ls).length + 1 : Nat) : Int) := by
 unfold num clsN
 have h' : x ∉ uniq ls := fun e => h (mem_uniq.1 e)
 rw [uniq_snoc, one1, if_neg h', List.idxOf_append, if_neg h']
 simp
theorem numsOf_snoc (ls : List α) (x : α) : numsOf (ls ++ [x]) = numsOf ls ++ [num (ls ++ [x]) x] := by
 unfold numsOf
 rw [List.map_append, List.map_singleton]
 congr 1
 exact List.map_congr_left fun y hy => num_old hy
theorem firstsN_snoc (ls : List α) (x : α) : firstsN (ls ++ [x]) = firstsN ls ++ if x ∈ ls then [] else [ls.length] := by
 unfold firstsN
 rw [uniq_snoc, one1]
 have key : ∀ y ∈ uniq ls, (ls ++ [x]).idxOf y = ls.idxOf y := fun y hy => by rw [List.idxOf_append, if_pos (mem_uniq.1 hy)]
 by_cases h : x ∈ ls
 ·rw [if_pos (mem_uniq.2 h), if_pos h, List.append_nil]
  exact List.map_congr_left key
 ·rw [if_neg (fun e => h (mem_uniq.1 e)), if_neg h, List.map_append, List.map_singleton]
  congr 1
  ·exact List.map_congr_left key
  ·rw [List.idxOf_append, if_neg h]; simp
theorem firstsOf_snoc (ls : List α) (x : α) : firstsOf (ls ++ [x]) = firstsOf ls ++ if x ∈ ls then [] else [(ls.length : Int)] := by
 unfold firstsOf
 rw [firstsN_snoc, List.map_append]
 congr 1
 split <;> rfl
theorem firstsOf_old {ls : List α} {x : α} (h : x ∈ ls) : firstsOf (ls ++ [x]) = firstsOf ls := by rw [firstsOf_snoc, if_pos h, List.append_nil]
theorem firstsOf_new {ls : List α} {x : α} (h : x ∉ ls) : firstsOf (ls ++ [x]) = firstsOf ls ++ [(ls.length : Int)] := by rw [firstsOf_snoc, if_neg h]
theorem firstsOf_length (ls : List α) : (firstsOf ls).length = (uniq ls).length := by simp [firstsOf, firstsN]
theorem firstsN_lt {ls : List α} {n : Nat} (h : n ∈ firstsN ls) : n < ls.length := by
 obtain ⟨x, hx, rfl⟩ := List.mem_map.1 h
 exact List.idxOf_lt_length_of_mem (mem_uniq.1 hx)
theorem num_pos (ls : List α) (x : α) : 1 ≤ num ls x := by unfold num clsN; omega
theorem num_le {ls : List α} {x : α} (h : x ∈ ls) : num ls x ≤ (uniq ls).length := by
 have := List.idxOf_lt_length_of_mem (mem_uniq.2 h)
 unfold num clsN; omega
end
def fill (m : Nat) (M : Nat → Nat → Int) (i j : Nat) : Int := if j < m then M i j else 0
def lines (n m : Nat) (M : Nat → Nat → Int) : List (List Int) := (List.range n).map fun a => (List.range 64).map (fill m M a)
theorem lines_length (n m : Nat) (M : Nat → Nat → Int) : (lines n m M).length = n := by simp [lines]
def ofM (n m : Nat) (M : Nat → Nat → Int) : List Int := numsOf (lines n m M)
def masksM (n m : Nat) (M : Nat → Nat → Int) : List (List Int) := (firstsN (lines n m M)).map fun i => (firstsN (lines m n (fun j i => M i j))).map fun j => M i j
theorem ofM_length (n m : Nat) (M : Nat → Nat → Int) : (ofM n m M).length = n := by simp [ofM, numsOf, lines_length]
def maskN (f : Nat → Bool) : Nat → Nat
 | 0 => 0
 | n + 1 => maskN f n ||| (if f n then 2 ^ n else 0)
theorem maskN_bit (f : Nat → Bool) : ∀ (n k : Nat), (maskN f n).testBit k = (decide (k < n) && f k)
 | 0, k => by simp [maskN]
 | n + 1, k => by
  rw [maskN, Nat.testBit_or, maskN_bit f n k]
  by_cases h : f n
  ·rw [if_pos h, Nat.testBit_two_pow]
   by_cases e : n = k
   ·subst e; simp [h]
   ·have e1 : decide (k < n + 1) = decide (k < n) := by simp; omega
    simp [e, e1]
  ·rw [if_neg h]
   by_cases e : n = k
   ·subst e; simp [h]
   ·have e1 : decide (k < n + 1) = decide (k < n) := by simp; omega
    simp [e1]
theorem maskN_lt (f : Nat → Bool) : ∀ n, maskN f n < 2 ^ n
 | 0 => by simp [maskN]
 | n + 1 => by
  rw [maskN]
  have := maskN_lt f n
  refine Nat.or_lt_two_pow (by omega) ?_
  split
  ·exact Nat.pow_lt_pow_right (by omega) (by omega)
  ·exact Nat.two_pow_pos _
end Go.Proofs.Ythaiodklfoegiaa.CPure
namespace Go.Proofs.Ythaiodklfoegiaa.PG
open YthaiodklfoegiaaF
attribute [local go_sem high] run_feq run_fne run_flt_lt run_flt_le run_flt_gt run_flt_ge
open Go.RowKit YthaiodklfoegiaaW.PrintWords YthaiodklfoegiaaW.PrintLast YthaiodklfoegiaaW.PrintMore
attribute [local go_sem] max2_int min2_int max_two min_two max_three min_three max_four min_four
def bits_Mask.l0 : Nat → Int → List Int → Int → Int → Option (Int)
 | 0, _, _, _, _ => none
 | k + 1, x3, x6, x7, x8 => if x8 < x7 then (if 0 ≤ x8 then (if x8 < (x6.length : Int) then (if (rd x6 x8) ≥ 0 then (if (rd x6 x8) < 16 then (if 0 ≤ (rd x6 x8) then (bits_Mask.l0 k (Go.bits .or .u16 x3 (shl .u16 1 (rd x6 x8))) x6 x7 (wrap64 (x8 + 1))) else (none)) else (bits_Mask.l0 k x3 x6 x7 (wrap64 (x8 + 1)))) else (bits_Mask.l0 k x3 x6 x7 (wrap64 (x8 + 1)))) else (none)) else (none)) else (some x3)
def bits_Mask.f (k : Nat) (l0 : List Int) : Option (Int) := bits_Mask.l0 k 0 l0 (l0.length : Int) 0
theorem bits_Mask.calls (k : Nat) (A0 : Option Addr) (c0 : Nat) (l0 : List Int) (r : Int) (w : World) (hr0 : Kd.C (Kd.int .i64) w A0 l0.length l0) (hc0 : l0.length ≤ c0) (h : bits_Mask.f k l0 = some r) :
  Calls Try.prog 70 #[.slice A0 l0.length c0] w fun e w' => e = .returned (.int .u16 r) ∧ Drawn0 w w' := by
 have HR0 := jA hr0
 have HC0 := jA hc0
 clear hr0 hc0
 have H : (bits_Mask.l0 k 0 l0 (l0.length : Int) 0) = some r := h
 clear h
 have H' := jA H
 clear H
 go_enter Try.func70, Try.ntmps70
 go_wp2
 go_loopg [3, 8] k (fun kq v3 v8 w' => ∃ (Zd : Int) (Za : Int), v3 = .int .u16 Zd ∧ v8 = .int .i64 Za ∧ Aside0 (bits_Mask.l0 kq Zd l0 (l0.length : Int) Za = some r) ∧ Aside0 (kq ≤ k) ∧ Drawn0 w w')
 case atStart => exact ⟨(0), (0), (by first | rfl | (simp; done) | (simp [*]; done)), (by first | rfl | (simp; done) | (simp [*]; done)), H', ⟨Nat.le_refl _⟩, by repeat (first | exact Drawn0.refl _ | apply Drawn0.step)⟩
 case round =>
  clear H'
  obtain ⟨Zd, Za, rfl, rfl, HA, HK1, ⟨m1, rfl⟩⟩ := hrel
  cases gk with
  | zero => exact absurd HA.out (by simp [bits_Mask.l0])
  | succ k1 =>
   have H := HA.out
   clear HA
   simp only [bits_Mask.l0] at H
   by_cases c2 : Za < (l0.length : Int)
   ·rw [if_pos c2] at H
    have c2b0 : decide (Za < (l0.length : Int)) = true := decide_eq_true c2
    clear c2
    by_cases c3 : 0 ≤ Za
    ·rw [if_pos c3] at H
     have c3b0 : decide (0 ≤ Za) = true := decide_eq_true c3
     clear c3
     by_cases c4 : Za < (l0.length : Int)
     ·rw [if_pos c4] at H
      have c4b0 : decide (Za < (l0.length : Int)) = true := decide_eq_true c4
      clear c4
      by_cases c5 : (rd l0 Za) ≥ 0
      ·rw [if_pos c5] at H
       have c5b0 : decide (0 ≤ (rd l0 Za)) = true := decide_eq_true c5
       clear c5
       by_cases c6 : (rd l0 Za) < 16
       ·rw [if_pos c6] at H
        have c6b0 : decide ((rd l0 Za) < 16) = true := decide_eq_true c6
        clear c6
        by_cases c7 : 0 ≤ (rd l0 Za)
        ·rw [if_pos c7] at H
         have c7b0 := eq_true c7
         have c7b1 : decide (0 ≤ (rd l0 Za)) = true := decide_eq_true c7
         clear c7
         obtain ⟨ji8, Zf⟩ : ∃ j_ : Int, (shl .u16 1 (rd l0 Za)) = j_ := ⟨_, rfl⟩
         replace H : (bits_Mask.l0 k1 (Go.bits .or .u16 Zd (ji8)) l0 (l0.length : Int) (wrap64 (Za + 1))) = some r := by first | (rw [Zf] at H; exact H) | (simp only [Zf] at H ⊢; exact H)
         have Zi : (IntKind.u16.wrap (1 * 2 ^ min (rd l0 Za).toNat 16)) = ji8 := Zf
         have hji8z : (rd l0 Za) ≤ 16 → (IntKind.u16.wrap (1 * 2 ^ (rd l0 Za).toNat)) = ji8 := shl_small Zf
         have hji8u : (IntKind.u16.wrap (2 ^ min (rd l0 Za).toNat 16)) = ji8 := by have h_ := Zi; rw [Int.one_mul] at h_; exact h_
         have hji8v : (rd l0 Za) ≤ 16 → (IntKind.u16.wrap (2 ^ (rd l0 Za).toNat)) = ji8 := fun hle_ => by have h_ := hji8z hle_; rw [Int.one_mul] at h_; exact h_
         have H' := jA H
         clear H
         have Zb : 0 ≤ (Za : Int) := of_decide_eq_true (by first | (with_reducible assumption) | assumption)
         have Zc : Za < (l0.length : Int) := of_decide_eq_true (by first | (with_reducible assumption) | assumption)
         obtain ⟨Zh, Zg, Ze⟩ := Kd.at_int HR0.out Za Zb Zc
         cases Zg
         replace Zb := eq_true Zb
         replace Zc := eq_true Zc
         go_wp2
         go_roundg k1
         case measure => have := HK1.out; omega
         case rel => exact ⟨(Go.bits .or .u16 Zd (ji8)), (wrap64 (Za + 1)), (by first | rfl | (simp; done) | (simp only [← Zf] <;> (first | rfl | simp)) | (simp [*]; done)), (by first | rfl | (simp; done) | (simp [*]; done)), H', ⟨by have := HK1.out; omega⟩, by repeat (first | exact Drawn0.refl _ | apply Drawn0.step)⟩
        ·rw [if_neg c7] at H
         exact absurd H (by simp)
       ·rw [if_neg c6] at H
        have c6b0 : decide ((rd l0 Za) < 16) = false := decide_eq_false c6
        clear c6
        have H' := jA H
        clear H
        have Zb : 0 ≤ (Za : Int) := of_decide_eq_true (by first | (with_reducible assumption) | assumption)
        have Zc : Za < (l0.length : Int) := of_decide_eq_true (by first | (with_reducible assumption) | assumption)
        obtain ⟨Zh, Zg, Ze⟩ := Kd.at_int HR0.out Za Zb Zc
        cases Zg
        replace Zb := eq_true Zb
        replace Zc := eq_true Zc
        go_wp2
        go_roundg k1
        case measure => have := HK1.out; omega
        case rel => exact ⟨(Zd), (wrap64 (Za + 1)), (by first | rfl | (simp; done) | (simp [*]; done)), (by first | rfl | (simp; done) | (simp [*]; done)), H', ⟨by have := HK1.out; omega⟩, by repeat (first | exact Drawn0.refl _ | apply Drawn0.step)⟩
      ·rw [if_neg c5] at H
       have c5b0 : decide (0 ≤ (rd l0 Za)) = false := decide_eq_false c5
       clear c5
       have H' := jA H
       clear H
       have Zb : 0 ≤ (Za : Int) := of_decide_eq_true (by first | (with_reducible assumption) | assumption)
       have Zc : Za < (l0.length : Int) := of_decide_eq_true (by first | (with_reducible assumption) | assumption)
       obtain ⟨Zh, Zg, Ze⟩ := Kd.at_int HR0.out Za Zb Zc
       cases Zg
       replace Zb := eq_true Zb
       replace Zc := eq_true Zc
       go_wp2
       go_roundg k1
       case measure => have := HK1.out; omega
       case rel => exact ⟨(Zd), (wrap64 (Za + 1)), (by first | rfl | (simp; done) | (simp [*]; done)), (by first | rfl | (simp; done) | (simp [*]; done)), H', ⟨by have := HK1.out; omega⟩, by repeat (first | exact Drawn0.refl _ | apply Drawn0.step)⟩
     ·rw [if_neg c4] at H
      exact absurd H (by simp)
    ·rw [if_neg c3] at H
     exact absurd H (by simp)
   ·rw [if_neg c2] at H
    have c2b0 : decide (Za < (l0.length : Int)) = false := decide_eq_false c2
    clear c2
    obtain rfl := Option.some.inj H
    go_wp2
    go_ret
    exact ⟨by first | rfl | (simp; done) | (simp [*]; done), by repeat (first | exact Drawn0.refl _ | apply Drawn0.step)⟩
end Go.Proofs.Ythaiodklfoegiaa.PG
/- bits.Mask: a mask out of a list of places; or. -/
namespace Go.Proofs.Ythaiodklfoegiaa.CBits
open Go.RowKit YthaiodklfoegiaaW.PrintWords YthaiodklfoegiaaW.PrintLast YthaiodklfoegiaaW.PrintMore CPure
open PG
theorem or_both (m n : Nat) (hm : m < 65536) (hn : n < 65536) : Go.bits .or .u16 (m : Int) (n : Int) = ((m ||| n : Nat) : Int) := by
 show IntKind.wrap .u16 (((BitVec.ofInt 16 (m : Int)) ||| (BitVec.ofInt 16 (n : Int))).toNat : Int) = _
 rw [BitVec.ofInt_natCast, BitVec.ofInt_natCast, BitVec.toNat_or, BitVec.toNat_ofNat, BitVec.toNat_ofNat, Nat.mod_eq_of_lt (by omega), Nat.mod_eq_of_lt (by omega)]
 have h := Nat.or_lt_two_pow (n := 16) hm hn
 generalize m ||| n = z at *
 simp only [IntKind.wrap, IntKind.bits, IntKind.signed]
 simp
 omega
theorem shl_pow (k : Nat) (hk : k ≤ 15) : shl .u16 1 (k : Int) = ((2 ^ k : Nat) : Int) := by
 have : ∀ k : Fin 16, shl .u16 1 (k.val : Int) = ((2 ^ k.val : Nat) : Int) := by decide
 exact this ⟨k, by omega⟩
theorem or_shl (m k : Nat) (hm : m < 65536) (hk : k ≤ 15) : Go.bits .or .u16 (m : Int) (shl .u16 1 (k : Int)) = ((m ||| 2 ^ k : Nat) : Int) := by
 rw [shl_pow k hk]
 exact or_both m _ hm (by calc 2 ^ k ≤ 2 ^ 15 := Nat.pow_le_pow_right (by omega) hk
  _ < 65536 := by decide)
def orStep (m : Nat) (x : Int) : Nat := if 0 ≤ x ∧ x < 16 then m ||| 2 ^ x.toNat else m
def orBits (l : List Int) : Nat := l.foldl orStep 0
theorem orBits_snoc (l : List Int) (x : Int) : orBits (l ++ [x]) = orStep (orBits l) x := by simp [orBits]
theorem orStep_lt {m : Nat} (hm : m < 65536) (x : Int) : orStep m x < 65536 := by
 unfold orStep
 split
 ·rename_i h
  refine Nat.or_lt_two_pow (n := 16) hm ?_
  exact Nat.pow_lt_pow_right (by omega) (by omega)
 ·exact hm
theorem orBits_lt (l : List Int) : orBits l < 65536 := by
 refine snoc_ind (P := fun l => orBits l < 65536) (by simp [orBits]) (fun l x ih => ?_) l
 rw [orBits_snoc]; exact orStep_lt ih x
theorem orStep_bit (m : Nat) (x : Int) (k : Nat) : (orStep m x).testBit k = (m.testBit k || decide (k < 16 ∧ (k : Int) = x)) := by
 unfold orStep
 by_cases h : 0 ≤ x ∧ x < 16
 ·rw [if_pos h, Nat.testBit_or, Nat.testBit_two_pow]
  congr 1
  rw [decide_eq_decide]
  omega
 ·rw [if_neg h]
  have : decide (k < 16 ∧ (k : Int) = x) = false := by rw [decide_eq_false_iff_not]; omega
  rw [this, Bool.or_false]
theorem orBits_bit (l : List Int) (k : Nat) : (orBits l).testBit k = decide (k < 16 ∧ (k : Int) ∈ l) := by
 refine snoc_ind (P := fun l => (orBits l).testBit k = decide (k < 16 ∧ (k : Int) ∈ l)) (by simp [orBits]) (fun l x ih => ?_) l
 rw [orBits_snoc, orStep_bit, ih, Bool.eq_iff_iff]
 simp only [Bool.or_eq_true, decide_eq_true_eq, List.mem_append, List.mem_singleton]
 constructor
 ·rintro (⟨h1, h2⟩ | ⟨h1, h2⟩)
  ·exact ⟨h1, .inl h2⟩
  ·exact ⟨h1, .inr h2⟩
 ·rintro ⟨h1, h2 | h2⟩
  ·exact .inl ⟨h1, h2⟩
  ·exact .inr ⟨h1, h2⟩
theorem mask_ev (l : List Int) (hl : l.length ≤ 9223372036854775807) : ∀ (d n : Nat), n + d = l.length → Ev (fun k => bits_Mask.l0 k (orBits (l.take n) : Nat) l l.length n) ((orBits l : Nat) : Int)
 | 0, n, h => by
  rw [List.take_of_length_le (by omega)]
  refine Ev.step (f := fun _ => some _) (fun k => ?_) (Ev.now _)
  simp only [bits_Mask.l0]
  rw [if_neg (by omega)]
 | d + 1, n, h => by
  have hlt : n < l.length := by omega
  have htk : l.take (n + 1) = l.take n ++ [l[n]] := List.take_succ_eq_append_getElem hlt
  have hnx : orBits (l.take (n + 1)) = orStep (orBits (l.take n)) l[n] := by rw [htk, orBits_snoc]
  have hb := orBits_lt (l.take n)
  refine Ev.step (f := fun k => bits_Mask.l0 k (orBits (l.take (n + 1)) : Nat) l l.length ((n + 1 : Nat) : Int)) (fun k => ?_) (mask_ev l hl d (n + 1) (by omega))
  simp only [bits_Mask.l0]
  rw [if_pos (by omega), if_pos (by omega), if_pos (by omega), VPure.rd_get l n hlt, VPure.w64n hlt (by omega), hnx]
  unfold orStep
  by_cases h0 : 0 ≤ l[n]
  ·by_cases h1 : l[n] < 16
   ·rw [if_pos (by omega), if_pos h1, if_pos h0, if_pos ⟨h0, h1⟩]
    obtain ⟨q, hq⟩ := Int.eq_ofNat_of_zero_le h0
    rw [hq] at h1 ⊢
    rw [or_shl _ q hb (by omega)]
    simp
   ·rw [if_pos (by omega), if_neg h1, if_neg (fun e => h1 e.2)]
  ·rw [if_neg (by omega), if_neg (fun e => h0 e.1)]
theorem mask_go (A : Option Addr) (c : Nat) (l : List Int) (w : World) (hC : Kd.C (Kd.int .i64) w A l.length l) (hc : l.length ≤ c) :
  Calls Try.prog 70 #[.slice A l.length c] w fun e w' => e = .returned (.int .u16 ((orBits l : Nat) : Int)) ∧ Drawn0 w w' := by
 obtain ⟨k, hk⟩ := (mask_ev l hC.2.1 l.length 0 (by omega)).rounds
 exact bits_Mask.calls k A c l _ w hC hc hk
end Go.Proofs.Ythaiodklfoegiaa.CBits
/- Rows of lines of one's own: n lines of 64 masks in one block. -/
namespace Go.Proofs.Ythaiodklfoegiaa.GBlk
open Go.RowKit YthaiodklfoegiaaW.PrintWords YthaiodklfoegiaaW.PrintLast BMap BRow GDiffer Go.Maps
def Blk (w : World) (g n : Nat) (F : Nat → Nat → Int) : Prop := w.rowIs g 65 (n * 64) (fun k => .int .u16 (F (k / 64) (k % 64)))
theorem div_of {i j : Nat} (hj : j < 64) : (i * 64 + j) / 64 = i := by omega
theorem mod_of {i j : Nat} (hj : j < 64) : (i * 64 + j) % 64 = j := by omega
namespace Blk
variable {w w1 : World} {g n : Nat} {F F' : Nat → Nat → Int}
theorem lt (h : Blk w g n F) : g < w.heap.size := World.rowIs.lt h
theorem below (h : Blk w g n F) (hb : Below w.heap.size w w1) : Blk w1 g n F := World.rowIs.of_block h (hb.block _ h.lt)
theorem drew (h : Blk w g n F) : Blk w.drew g n F := World.rowIs.drew h
theorem far (h : Blk w g n F) {a : Addr} (ha : g ≠ a.block) (v : Value) : Blk (w.setCell a v) g n F := World.rowIs.setOther h ha v
theorem cell (h : Blk w g n F) {i j : Nat} (hi : i < n) (hj : j < 64) : w.cell? ⟨g, i * 64 + j, none⟩ = some (.int .u16 (F i j)) := by
 have := World.rowIs.cell h (i := i * 64 + j) (by omega)
 rwa [div_of hj, mod_of hj] at this
theorem frozen (h : Blk w g n F) (i : Nat) : w.frozen? ⟨g, i, none⟩ = false := World.rowIs.frozen h i
theorem congr (h : Blk w g n F) (e : ∀ a b, a < n → b < 64 → F a b = F' a b) : Blk w g n F' :=
 World.rowIs.congr h fun k hk => by rw [e (k / 64) (k % 64) (by omega) (by omega)]
theorem set (h : Blk w g n F) {i j : Nat} (hj : j < 64) (x : Int) : Blk (w.setCell ⟨g, i * 64 + j, none⟩ (.int .u16 x)) g n (fun a b => if a = i ∧ b = j then x else F a b) :=
 World.rowIs.congr (World.rowIs.set h (i * 64 + j) (.int .u16 x)) fun k _ => by
  have : k = i * 64 + j ↔ (k / 64 = i ∧ k % 64 = j) := by omega
  show (if k = i * 64 + j then Value.int .u16 x else .int .u16 (F (k / 64) (k % 64))) = Value.int .u16 (if k / 64 = i ∧ k % 64 = j then x else F (k / 64) (k % 64))
  by_cases e : k = i * 64 + j
  ·rw [if_pos e, if_pos (this.1 e)]
  ·rw [if_neg e, if_neg (fun hh => e (this.2 hh))]
end Blk
theorem Blk.made (w : World) (n : Nat) (z : Array Value) (hz : z = Array.replicate 64 (.int .u16 0)) : Blk (w.alloc (.cells (madeCells z (n * 64)) 65)) w.heap.size n (fun _ _ => 0) := by
 subst hz
 have := World.rowIs_alloc w (madeCells (Array.replicate 64 (.int .u16 0)) (n * 64)) 65 (fun _ => .int .u16 0) (fun i hi => by
  rw [size_madeCells] at hi
  have : i % 64 < 64 := by omega
  simp [madeCells, hi, this])
 rw [size_madeCells] at this
 exact this
def linesOf (n : Nat) (F : Nat → Nat → Int) : List (List Int) := (List.range n).map fun a => (List.range 64).map (F a)
theorem linesOf_length (n : Nat) (F : Nat → Nat → Int) : (linesOf n F).length = n := by simp [linesOf]
theorem Blk.C {w : World} {g n : Nat} {F : Nat → Nat → Int} (h : Blk w g n F) (hn : n ≤ 9223372036854775807) : kLine.C w (some ⟨g, 0, none⟩) n (linesOf n F) := by
 refine ⟨linesOf_length n F, hn, fun _ => ⟨_, rfl, fun a p hp => ?_⟩⟩
 have ha : a < n := by have := (List.getElem?_eq_some_iff.1 hp).1; rwa [linesOf_length] at this
 have hp' : p = (List.range 64).map (F a) := by
  simp [linesOf, ha] at hp
  exact hp.symm
 subst hp'
 refine ⟨nums .u16 ((List.range 64).map (F a)), by simp [nums]; rfl, Kd.K_of_M (base := 0) (ok := fun _ => True) _ (Kd.arr_of_cells (by simp)), fun j u hu => ?_⟩
 have hj : j < 64 := by have := (List.getElem?_eq_some_iff.1 hu).1; simpa [nums] using this
 have hu' : u = .int .u16 (F a j) := by
  simp [nums, hj] at hu
  exact hu.symm
 subst hu'
 have := h.cell ha hj
 have e : ((⟨g, 0, none⟩ : Addr).add (a * 64 + j)) = ⟨g, a * 64 + j, none⟩ := by rw [Addr.add_mid, Nat.zero_add]
 show w.cell? ((⟨g, 0, none⟩ : Addr).add (a * 64 + j)) = _
 rw [e]
 exact this
theorem linesOf_ok {n : Nat} {F : Nat → Nat → Int} (hF : ∀ a b, a < n → b < 64 → (Lit.int .u16 (F a b)).wf = true) : ∀ l ∈ linesOf n F, lineOk l := by
 intro l hl
 obtain ⟨a, ha, rfl⟩ := List.mem_map.1 hl
 refine ⟨by simp, fun x hx => ?_⟩
 obtain ⟨b, hb, rfl⟩ := List.mem_map.1 hx
 exact hF a b (by simpa using ha) (by simpa using hb)
theorem info65 : ∃ i : TypeInfo, Try.prog.info? 65 = some i ∧ i.zero = some (.agg (Array.replicate 64 (.int .u16 0))) ∧ i.size = 64 ∧ i.bytes = 128 := by
 have h : (Try.prog.info? 65).map (fun i => (i.zero, i.size, i.bytes)) = some (some (.agg (Array.replicate 64 (.int .u16 0))), 64, 128) := by kernel_rfl
 obtain ⟨i, hi, hz⟩ := Option.map_eq_some_iff.1 h
 simp only [Prod.mk.injEq] at hz
 exact ⟨i, hi, hz.1, hz.2.1, hz.2.2⟩
abbrev made (n : Nat) : Obj := .cells (madeCells (Array.replicate 64 (.int .u16 0)) (n * 64)) 65
theorem make_lines (n : Nat) (hn : n ≤ 64) (w : World) : (Instr.makeSlice 63 (.int .i64 (n : Int)) (.int .i64 (n : Int))).run Try.prog w = .ok (.slice (some ⟨w.heap.size, 0, none⟩) n n) (w.alloc (made n)) := by
 obtain ⟨i, h1, h2, h3, h4⟩ := info65
 have := run_make (P := Try.prog) w 63 65 i _ Try.underlying63 h1 h2 .i64 .i64 (n : Int) n (by omega) (by omega) (by rw [h4]; omega) (by omega)
 rw [h3] at this
 simpa [Value.cells] using this
end Go.Proofs.Ythaiodklfoegiaa.GBlk
/- graph.classes, walked. -/
namespace Go.Proofs.Ythaiodklfoegiaa.CClasses
open Go.RowKit YthaiodklfoegiaaW.PrintWords YthaiodklfoegiaaW.PrintLast YthaiodklfoegiaaW.PrintMore BMap BRow GDiffer GBlk CPure MLines MSide MPol Go.Maps
open PG
structure Cl (w wr : World) (v4 v5 : Value) (L4 L5 : List Int) (f : List Int → Option Int) (n : Nat) : Prop where
 map : MapL wr w.heap.size f n
 r4 : Kd.R (Kd.int .i64) 3 wr w.heap.size (fun b => b ≠ w.heap.size) v4 L4
 r5 : Kd.R (Kd.int .i64) 3 wr w.heap.size (fun b => b ≠ w.heap.size) v5 L5
 apart : ∀ b, v4.ownBlock = some b → v5.ownBlock ≠ some b
 below : Below w.heap.size w wr
namespace Cl
variable {w wr w1 : World} {v4 v5 v' : Value} {L4 L5 : List Int} {f : List Int → Option Int} {n : Nat}
theorem move (h : Cl w wr v4 v5 L4 L5 f n) (hb : Below wr.heap.size wr w1) : Cl w w1 v4 v5 L4 L5 f n :=
 ⟨h.map.below hb, Kd.R_below h.r4 hb, Kd.R_below h.r5 hb, h.apart, below_then h.below h.below.size hb⟩
theorem okR {e base : Nat} {W : World} {ok : Nat → Prop} {v : Value} {xs : List Int} {ok' : Nat → Prop} (h : Kd.R (Kd.int .i64) e W base ok v xs) (h' : ∀ k, v.ownBlock = some k → ok' k) : Kd.R (Kd.int .i64) e W base ok' v xs := ⟨h', h.2⟩
theorem ltR {e base : Nat} {W : World} {ok : Nat → Prop} {v : Value} {xs : List Int} (h : Kd.R (Kd.int .i64) e W base ok v xs) (k : Nat) (hk : v.ownBlock = some k) : k < W.heap.size := (Kd.R_bound h).1 k hk |>.2.2.1
theorem app5 {L : List Int} (h : Cl w wr v4 v5 L4 L5 f n) (hr : Kd.R (Kd.int .i64) 3 w1 w.heap.size (fun b => b ≠ w.heap.size) v' L) (hb : Below w.heap.size w w1) (hg : wr.grownBy w1 v5.ownBlock) (hat : v'.ownBlock = v5.ownBlock ∨ ∃ b, v'.ownBlock = some b ∧ wr.heap.size ≤ b) : Cl w w1 v4 v' L4 L f n where
 map := h.map.grown hg (fun e => h.r5.1 _ e.symm rfl)
 r4 := Kd.R_mono (Kd.R_grown (okR (ok' := fun b => b ≠ w.heap.size ∧ v5.ownBlock ≠ some b) h.r4 (fun k hk => ⟨h.r4.1 k hk, h.apart k hk⟩)) hg (fun k hk => hk.2.symm)) (fun k hk => hk.1)
 r5 := hr
 apart := fun b hb => by
  rcases hat with e | ⟨g, e, hge⟩
  ·rw [e]; exact h.apart b hb
  ·rw [e]; intro k; have := ltR h.r4 b hb; have := Option.some.inj k; omega
 below := hb
theorem app4 {L : List Int} (h : Cl w wr v4 v5 L4 L5 f n) (hr : Kd.R (Kd.int .i64) 3 w1 w.heap.size (fun b => b ≠ w.heap.size) v' L) (hb : Below w.heap.size w w1) (hg : wr.grownBy w1 v4.ownBlock) (hat : v'.ownBlock = v4.ownBlock ∨ ∃ b, v'.ownBlock = some b ∧ wr.heap.size ≤ b) : Cl w w1 v' v5 L L5 f n where
 map := h.map.grown hg (fun e => h.r4.1 _ e.symm rfl)
 r5 := Kd.R_mono (Kd.R_grown (okR (ok' := fun b => b ≠ w.heap.size ∧ v4.ownBlock ≠ some b) h.r5 (fun k hk => ⟨h.r5.1 k hk, fun e => h.apart k e hk⟩)) hg (fun k hk => hk.2.symm)) (fun k hk => hk.1)
 r4 := hr
 apart := fun b hb => by
  rcases hat with e | ⟨g, e, hge⟩
  ·rw [e] at hb; exact h.apart b hb
  ·rw [e] at hb; intro k; have := ltR h.r5 b k; have := Option.some.inj hb; omega
 below := hb
theorem put {f' : List Int → Option Int} {n' : Nat} (h : Cl w wr v4 v5 L4 L5 f n) (hM : MapL w1 w.heap.size f' n') (hg : wr.grownBy w1 (some w.heap.size)) : Cl w w1 v4 v5 L4 L5 f' n' where
 map := hM
 r4 := Kd.R_grown h.r4 hg (fun k hk e => hk (Option.some.inj e))
 r5 := Kd.R_grown h.r5 hg (fun k hk e => hk (Option.some.inj e))
 apart := h.apart
 below := h.below.grown hg h.below.size (fun k hk => by cases hk; exact Nat.le_refl _)
end Cl
theorem map_ne {κ β : Type} {kenc : κ → Value} {venc : β → Value} {ok : κ → Prop} {w : World} {b n : Nat} {f : κ → Option β} (h : MapF kenc venc ok w b f n) {g t : Nat} {cs : Array Value} (hS : Stays w g cs t) : g ≠ b := by
 rintro rfl
 obtain ⟨es, cl, l, h2, _⟩ := h.out
 have h1 : w.heap[g]? = some (.cells cs t (0, 0)) := hS
 rw [h1] at h2
 cases h2
theorem zero65' : ∃ cur : Array Value, cur.size = 64 ∧ ∀ w : World, (zeroValue 65).run Try.prog w = .ok (.agg cur) w := ⟨Array.replicate 64 (.int .u16 0), by simp, fun w => by kernel_rfl⟩
theorem i65 : (Try.prog.info? 65).map (·.size) = some 64 := by kernel_rfl
theorem look_line {w : World} {b : Nat} {f : List Int → Option Int} {n : Nat} (hM : MapL w b f n) {l : List Int} (hl : lineOk l) (v : Array Value) (hv : v = (nums .u16 l).toArray) : (Instr.lookup 102 (.map (some b)) (.agg v) false).run Try.prog w = .ok (.int .i64 ((f l).getD 0)) w := by
 subst hv
 have hq := hM.lookup line_key Try.underlying102 (zero3 w) hl false
 have e : ((f l).map (Value.int IntKind.i64)).getD (.int .i64 0) = .int .i64 ((f l).getD 0) := by cases f l <;> rfl
 simp only [Bool.false_eq_true, if_false, e] at hq
 exact hq
theorem classes_calls (A : Option Addr) (c : Nat) (ls : List (List Int)) (w : World) (hC : kLine.C w A ls.length ls) (hok : ∀ l ∈ ls, lineOk l) (hl : ls.length ≤ 64) :
  Calls Try.prog 49 #[.slice A ls.length c] w fun e w' => ∃ v4 v5, e = .returned (.tuple #[v4, v5]) ∧ Kd.R (Kd.int .i64) 3 w' w.heap.size (fun _ => True) v4 (numsOf ls) ∧ Kd.R (Kd.int .i64) 3 w' w.heap.size (fun _ => True) v5 (firstsOf ls) ∧ Below w.heap.size w w' := by
 have HC := jA hC
 have HOK := jA hok
 have HLL := jA hl
 have hmax : ls.length ≤ 9223372036854775807 := hC.2.1
 clear hC hok hl
 have hmm := @run_makeMap Try.prog
 go_enter Try.func49, Try.ntmps49
 go_wp2
 clear hmm
 obtain ⟨cur, hcur, hz⟩ := zero65'
 have HCUR := jA hcur
 clear hcur
 go_loopw [4, 5, 12] (fun u4 u5 u12 wr => ∃ (k : Nat) (f : List Int → Option Int) (n : Nat), k ≤ ls.length ∧ u12 = .int .i64 k ∧ Aside0 (Cl w wr u4 u5 (numsOf (ls.take k)) (firstsOf (ls.take k)) f n) ∧ Aside0 (∀ l, (l ∈ ls.take k → f l = some (num (ls.take k) l)) ∧ (l ∉ ls.take k → f l = none))) (fun _ _ u12 _ => ls.length - (intOf u12).toNat)
 case atStart => exact ⟨0, _, _, Nat.zero_le _, rfl, ⟨⟨MapF.made w, Kd.R_nil _ _ _ _ _, Kd.R_nil _ _ _ _ _, fun b h => by simp [Value.ownBlock] at h, (Below.refl _ _).alloc (Nat.le_refl _) _⟩⟩, ⟨fun l => by simp⟩⟩
 case round =>
  obtain ⟨k, f, n, hk, rfl, HR, HF⟩ := hrel
  by_cases hlt : k < ls.length
  ·obtain ⟨ad, cs, e0, hl, hK, hcell⟩ := Kd.C_get HC.out ([] : List Int) (k : Int) (by omega) (by omega)
   cases e0
   have hlo := HOK.out (ls[k]) (List.getElem_mem hlt)
   have hget : ls.getD (k : Int).toNat [] = ls[k] := by simp [hlt]
   rw [hget] at hK
   obtain ⟨_, rfl⟩ := Kd.arr_cells hK
   have htk : ls.take (k + 1) = ls.take k ++ [ls[k]] := List.take_succ_eq_append_getElem hlt
   obtain ⟨x, hxx⟩ : ∃ x, x = ls[k] := ⟨_, rfl⟩
   rw [← hxx] at hcell hlo htk
   have hcw : ∀ (j : Nat) (v : Value), (nums .u16 x)[j]? = some v → wr.cell? ((ad.add (k * 64)).add j) = some v := by
    intro j v hj
    have : w.cell? (ad.add (k * 64 + j)) = some v := hcell j v hj
    rw [← add_add] at this
    rw [HR.out.below.cell (World.block_lt_of_cell? w _ this)]
    exact this
   have hsz : (nums .u16 x).length = 64 := by rw [nums_length, hlo.1]
   have hfx := HF.out x
   have hlen : (ls.take k).length = k := by rw [List.length_take]; omega
   have h64 := HLL.out
   have hnl : (numsOf (ls.take k)).length = k := by rw [numsOf, List.length_map, hlen]
   have hfl : (firstsOf (ls.take k)).length ≤ k := by rw [firstsOf_length]; have := uniq_length (ls.take k); omega
   have Zb : ((numsOf (ls.take k)).length + 1) * 8 ≤ 140737488355328 := by omega
   have Zc : ((firstsOf (ls.take k)).length + 1) * 8 ≤ 140737488355328 := by omega
   have hnew : ls.take (k + 1) = ls.take k ++ [x] := htk
   have hl4 : numsOf (ls.take (k + 1)) = numsOf (ls.take k) ++ [num (ls.take (k + 1)) x] := by rw [htk]; exact numsOf_snoc _ _
   have hl5o : x ∈ ls.take k → firstsOf (ls.take (k + 1)) = firstsOf (ls.take k) := fun h => by rw [htk, firstsOf_old h]
   have hl5n : x ∉ ls.take k → firstsOf (ls.take (k + 1)) = firstsOf (ls.take k) ++ [(k : Int)] := fun h => by rw [htk, firstsOf_new h, hlen]
   have hnum : ∀ y, y ∈ ls.take k → num (ls.take (k + 1)) y = num (ls.take k) y := fun y hy => by rw [htk]; exact num_old hy
   have hnn : x ∉ ls.take k → num (ls.take (k + 1)) x = (((firstsOf (ls.take k)).length + 1 : Nat) : Int) := fun h => by rw [htk, num_new h, firstsOf_length]
   have hmem : ∀ y, y ∈ ls.take (k + 1) ↔ y ∈ ls.take k ∨ y = x := fun y => by rw [htk, List.mem_append, List.mem_singleton]
   have hpos := num_pos (ls.take k) x
   have hle : x ∈ ls.take k → num (ls.take k) x ≤ k := fun h => by have h1 := num_le h; have h2 := uniq_length (ls.take k); omega
   generalize numsOf (ls.take k) = L4 at *
   generalize firstsOf (ls.take k) = L5 at *
   have HCW := jA hcw
   have HLO := jA hlo
   have HSZ := jA hsz
   have HFX := jA hfx
   have Zd := jA Zb
   have Zf := jA Zc
   have HL4 := jA hl4
   have HL5o := jA hl5o
   have HL5n := jA hl5n
   have HNUM := jA hnum
   have HNN := jA hnn
   have HMEM := jA hmem
   have HPOS := jA hpos
   have HLE := jA hle
   clear hl hK hcell hget hcw hlo hsz hfx Zb Zc hl4 hl5o hl5n hnum hnn hmem hpos hle htk hxx hnl hfl hnew hlen h64
   have c0' : (k : Int) < ls.length := by omega
   have HSA := jA (show (nums .u16 x).toArray.size = cur.size by rw [List.size_toArray, HSZ.out, HCUR.out])
   have HIA := jA (show (Try.prog.info? 65).map (·.size) = some (nums .u16 x).toArray.size by rw [List.size_toArray, HSZ.out]; exact i65)
   have HIL := jA (show (Try.prog.info? 65).map (·.size) = some (nums .u16 x).length by rw [HSZ.out]; exact i65)
   have HOA := jA (show (nums .u16 x).toArray.all (·.oneCell') = true by rw [Array.all_eq_true_iff_forall_mem]; intro u hu; exact nums_one _ _ u (by simpa using hu))
   go_upto_region 6 with (first | ((with_reducible refine gate_dst (N := 16) rfl ?_); refine wpList_load_at rfl 65 (.tmp 15) rfl (ad.add (k * 64)) ?hx (nums .u16 x) HCW.out _ Try.underlying65 rfl HIL.out ?_; (case hx => rfl)) | ((with_reducible refine gate_store (t := 65) (p := 8) (v := .tmp 16) rfl ?_); refine wpList_store_var rfl 65 (.tmp 8) (.tmp 16) rfl wr.heap.size (nums .u16 x).toArray ?hx ?hy (cs := cur) (t := 65) (heap_alloc_new wr _) HSA.out HIA.out HOA.out ?_; (case hx => rfl); (case hy => rfl)))
   (try simp only [Act.put])
   have hb2 : Below wr.heap.size wr ((wr.alloc (.cells cur 65)).setCells wr.heap.size 0 (nums .u16 x).toArray.toList) := setCells_below (below_alloc (Below.refl _ _) _) (Nat.le_refl _) _
   have hS2 : Stays ((wr.alloc (.cells cur 65)).setCells wr.heap.size 0 (nums .u16 x).toArray.toList) wr.heap.size (nums .u16 x).toArray 65 := setCells_var (vs := (nums .u16 x).toArray) (heap_alloc_new wr _) (by rw [List.size_toArray, HSZ.out, HCUR.out])
   have hR2 := HR.out.move hb2
   obtain ⟨W2, hW2⟩ : ∃ W2, W2 = ((wr.alloc (.cells cur 65)).setCells wr.heap.size 0 (nums .u16 x).toArray.toList) := ⟨_, rfl⟩
   obtain ⟨g8, hg8⟩ : ∃ g8, g8 = wr.heap.size := ⟨_, rfl⟩
   rw [← hW2] at hS2 hR2 ⊢
   rw [← hg8] at hS2 ⊢
   obtain ⟨xa, hxa⟩ : ∃ xa, xa = (nums .u16 x).toArray := ⟨_, rfl⟩
   rw [← hxa] at hS2
   have HXA := jA hxa
   have hxs : (Try.prog.info? 65).map (·.size) = some xa.size := by rw [hxa, List.size_toArray, HSZ.out]; exact i65
   have HXS := jA hxs
   have HS2 := jA hS2
   have HR2 := jA hR2
   clear hb2 hS2 hR2 hW2 hg8 hxa hxs
   by_cases hin : x ∈ ls.take k
   ·have hlk := look_line HR2.out.map HLO.out xa HXA.out
    have hfx := HFX.out.1 hin
    rw [hfx, Option.getD_some] at hlk
    have hp := HPOS.out
    generalize hqq : num (ls.take k) x = q at *
    have hq0 : (q == (0 : Int)) = false := by rw [beq_eq_false_iff_ne]; omega
    have HIN := jA hin
    have HQQ := jA hqq
    have Zl := jA hfx
    clear hp hfx hqq hin
    go_wp2_with (first | ((with_reducible refine gate_dst (N := 18) rfl ?_); refine wpList_load_blk rfl 65 (.tmp 8) rfl g8 ?hx xa 65 HS2.out _ Try.underlying65 rfl HXS.out ?_; (case hx => rfl)) | ((with_reducible refine gate_dst (N := 31) rfl ?_); refine wpList_load_blk rfl 65 (.tmp 8) rfl g8 ?hx xa 65 HS2.out _ Try.underlying65 rfl HXS.out ?_; (case hx => rfl)) | ((with_reducible refine gate_builtin (b := .append) (xs := #[.tmp 29, .tmp 33]) rfl ?_); at_builtin; refine Kd.R_append (Kd.int .i64) (w0 := w) w.heap.size rfl (.tmp 29) (.tmp 33) 23 3 (.int .i64 0) 8 rfl Try.underlying23 info3 rfl (by decide) (by decide) u4 L4 q [.int .i64 q] (fun b => b ≠ w.heap.size) (fun _ => False) rfl rfl rfl (fun _ hk => hk.elim) (fun k hk e => by have := HR2.out.map.lt; omega) HR2.out.r4 HR2.out.below HR2.out.below.size Zd.out ?_; intro v8 w8 hR8 hB8 hg8 Za; have HR8 := jA (HR2.out.app4 hR8 hB8 hg8 Za); clear hR8 hB8 hg8 Za))
    go_roundw
    case rel => exact ⟨k + 1, f, n, by omega, by go_num, ⟨by rw [HL4.out, HNUM.out x HIN.out, HQQ.out, HL5o.out HIN.out]; exact HR8.out⟩, ⟨fun l => ⟨fun hl => by
     have hl2 : l ∈ ls.take k := by
      rcases (HMEM.out l).1 hl with h | h
      ·exact h
      ·rw [h]; exact HIN.out
     rw [HNUM.out l hl2]; exact (HF.out l).1 hl2, fun hl => (HF.out l).2 (fun h => hl ((HMEM.out l).2 (.inl h)))⟩⟩⟩
    case measure => simp [intOf]; omega
   ·have hlk := look_line HR2.out.map HLO.out xa HXA.out
    have hfx := HFX.out.2 hin
    rw [hfx, Option.getD_none] at hlk
    have HNIN := jA hin
    clear hfx hin
    go_upto_region 8 with (first | ((with_reducible refine gate_dst (N := 18) rfl ?_); refine wpList_load_blk rfl 65 (.tmp 8) rfl g8 ?hx xa 65 HS2.out _ Try.underlying65 rfl HXS.out ?_; (case hx => rfl)) | ((with_reducible refine gate_builtin (b := .append) (xs := #[.tmp 21, .tmp 23]) rfl ?_); at_builtin; refine Kd.R_append (Kd.int .i64) (w0 := w) w.heap.size rfl (.tmp 21) (.tmp 23) 23 3 (.int .i64 0) 8 rfl Try.underlying23 info3 rfl (by decide) (by decide) u5 L5 (k : Int) [.int .i64 k] (fun b => b ≠ w.heap.size) (fun _ => False) rfl rfl rfl (fun _ hk => hk.elim) (fun k hk e => by have := HR2.out.map.lt; omega) HR2.out.r5 HR2.out.below HR2.out.below.size Zf.out ?_; intro v8 w8 hR8 hB8 hg8 Za; have HR8 := jA (HR2.out.app5 hR8 hB8 hg8 Za); have HS8 := jA (show Stays w8 g8 xa 65 from (hg8.block _ (Array.getElem?_eq_some_iff.1 HS2.out).1 (Kd.R_ne HR2.out.r5 HS2.out (by decide))).trans HS2.out); clear hR8 hB8 hg8 Za))
    clear hlk
    obtain ⟨A8, c8, e8⟩ := Kd.R_slice HR8.out.r5
    obtain ⟨m, hm⟩ : ∃ m, m = (L5 ++ [(k : Int)]).length := ⟨_, rfl⟩
    rw [← hm] at e8
    subst e8
    have hm1 : m = L5.length + 1 := by rw [hm]; simp
    have HMM := jA hm1
    clear hm hm1
    obtain ⟨w9, hrun, hM9, hg9⟩ := HR8.out.map.update line_key Try.underlying102 HLO.out (m : Int)
    have Zg : (Instr.mapUpdate 102 (.map (some w.heap.size)) (.agg xa) (.int .i64 (m : Int))).run Try.prog w8 = .ok () w9 := by rw [HXA.out]; exact hrun
    have HR9 := jA (HR8.out.put hM9 hg9)
    have HS9 := jA (show Stays w9 g8 xa 65 from (hg9.block _ (Array.getElem?_eq_some_iff.1 HS8.out).1 (fun e => map_ne HR8.out.map HS8.out (Option.some.inj e))).trans HS8.out)
    clear hrun hM9 hg9
    go_upto_region 9 with (first | ((with_reducible refine gate_dst (N := 26) rfl ?_); refine wpList_load_blk rfl 65 (.tmp 8) rfl g8 ?hx xa 65 HS8.out _ Try.underlying65 rfl HXS.out ?_; (case hx => rfl)))
    clear Zg
    have hlk := look_line HR9.out.map HLO.out xa HXA.out
    rw [upd_same, Option.getD_some] at hlk
    go_wp2_with (first | ((with_reducible refine gate_dst (N := 31) rfl ?_); refine wpList_load_blk rfl 65 (.tmp 8) rfl g8 ?hx xa 65 HS9.out _ Try.underlying65 rfl HXS.out ?_; (case hx => rfl)) | ((with_reducible refine gate_builtin (b := .append) (xs := #[.tmp 29, .tmp 33]) rfl ?_); at_builtin; refine Kd.R_append (Kd.int .i64) (w0 := w) w.heap.size rfl (.tmp 29) (.tmp 33) 23 3 (.int .i64 0) 8 rfl Try.underlying23 info3 rfl (by decide) (by decide) u4 L4 (m : Int) [.int .i64 m] (fun b => b ≠ w.heap.size) (fun _ => False) rfl rfl rfl (fun _ hk => hk.elim) (fun k hk e => by have := HR9.out.map.lt; omega) HR9.out.r4 HR9.out.below HR9.out.below.size Zd.out ?_; intro v10 w10 Zh Zi Zj Ze; have Zk := jA (HR9.out.app4 Zh Zi Zj Ze); clear Zh Zi Zj Ze))
    go_roundw
    case rel => exact ⟨k + 1, _, _, by omega, by go_num, ⟨by rw [HL4.out, HNN.out HNIN.out, ← HMM.out, HL5n.out HNIN.out]; exact Zk.out⟩, ⟨fun l => ⟨fun hl => by
     by_cases e : l = x
     ·rw [e, upd_same, HNN.out HNIN.out, HMM.out]
     ·have hl2 : l ∈ ls.take k := by
       rcases (HMEM.out l).1 hl with h | h
       ·exact h
       ·exact absurd h e
      rw [upd_other _ _ e, HNUM.out l hl2]; exact (HF.out l).1 hl2, fun hl => by
     have e : l ≠ x := fun e => hl ((HMEM.out l).2 (.inr e))
     rw [upd_other _ _ e]; exact (HF.out l).2 (fun h => hl ((HMEM.out l).2 (.inl h)))⟩⟩⟩
    case measure => simp [intOf]; omega
  ·have hkk : k = ls.length := by omega
   subst hkk
   have hfin := HR.out
   rw [List.take_length] at hfin
   have HFI := jA hfin
   clear hfin
   obtain ⟨A4, c4, e4⟩ := Kd.R_slice HFI.out.r4
   obtain ⟨A5, c5, e5⟩ := Kd.R_slice HFI.out.r5
   go_wp2
   go_ret2
   exact ⟨_, _, rfl, Kd.R_mono HFI.out.r4 (fun _ _ => trivial), Kd.R_mono HFI.out.r5 (fun _ _ => trivial), HFI.out.below⟩
end Go.Proofs.Ythaiodklfoegiaa.CClasses
/- mean.subject. -/
namespace Go.Proofs.Ythaiodklfoegiaa.MPol
open Go.RowKit YthaiodklfoegiaaW.PrintWords YthaiodklfoegiaaW.PrintLast YthaiodklfoegiaaW.PrintMore BMap BRow MLines MPut MClose MConcat MStand MSide Go.Maps
open PG YthaiodklfoegiaaF
theorem wpList_store_one {P : Program} {w : World} {ops : Array Oper} {rest : List Oper} {op : Oper} {a : Act} {Q : Exit → Act → World → Prop} (hgd : op.guard = none) (ty : TypeId) (x y : Operand) (ho : op.op = .store ty x y) (b o : Nat) (v : Value) (hv : v.cells = #[v]) (h1 : v.oneCell' = true)
  (hx : a.eval x = .pointer (some ⟨b, o, none⟩)) (hy : a.eval y = v) (ht : w.there b o 1) (hi : (P.info? ty).map (·.size) = some 1) (h : wpList P ops Q rest (a.put op.dst undef) (w.setCell ⟨b, o, none⟩ v)) : wpList P ops Q (op :: rest) a w := by
 refine wpList_plain hgd fun K hK => ?_
 have hrun : (storeVar ty ⟨b, o, none⟩ v).run P w = .ok () (w.setCell ⟨b, o, none⟩ v) := by
  have := run_storeCells_cells (P := P) b o [v] 0 w (fun j hj => by simpa using (ht j (by simpa using hj)).1) (fun j hj => by simpa using (ht j (by simpa using hj)).2) (fun u hu => by rw [List.mem_singleton.1 hu]; exact h1)
  cases hq : P.info? ty with
  | none => simp [hq] at hi
  | some i =>
   have hs : i.size = 1 := by simpa [hq] using hi
   simp only [Nat.add_zero, World.setCells] at this
   simp [storeVar, sizeOf, typeInfo, hq, hv, hs, this]
 unfold Oper.wp execOp
 simp only [ho, hx, hy, Instr.storeAt, Instr.sureAddr, Sem.run_bind, Sem.run_pure, Result.andThen_ok, hrun]
 exact hK _ _ h
theorem z54 (w : World) : (zeroValue 54).run Try.prog w = .ok (.agg #[.string ⟨#[]⟩, .float .f64 0]) w := by kernel_rfl
theorem i54 : (Try.prog.info? 54).map (·.size) = some 2 := by kernel_rfl
theorem i52 : (Try.prog.info? 52).map (·.size) = some 1 := by kernel_rfl
theorem trust_skip {d : PolD} {s : ByteArray} {k : Nat} (hk : k < d.subs.length) (h : ∀ x ∈ d.subs.take k, x.f0 ≠ s) (he : d.subs[k].f0 = s) : d.trust s = some d.subs[k].f1 := by
 unfold PolD.trust
 have e : d.subs = d.subs.take k ++ d.subs[k] :: d.subs.drop (k + 1) := by rw [← List.drop_eq_getElem_cons hk, List.take_append_drop]
 have e2 : d.subs.find? (fun x => decide (x.f0 = s)) = some d.subs[k] := by
  rw [congrArg (List.find? (fun x => decide (x.f0 = s))) e, List.find?_append, List.find?_eq_none.2 (fun x hx => by simpa using h x hx), Option.none_or, List.find?_cons_of_pos (by simpa using he)]
 rw [e2]
 rfl
theorem trust_none {d : PolD} {s : ByteArray} (h : ∀ x ∈ d.subs, x.f0 ≠ s) : d.trust s = none := by
 unfold PolD.trust
 rw [List.find?_eq_none.2 (fun x hx => by simpa using h x hx)]
 rfl
theorem subject_calls (p : Pol) (s : ByteArray) (w : World) (hp : p.In w) (hd : p.d.Ok) (hs : okS s) :
  Calls Try.prog 60 #[.agg p.cells, .string s] w fun e w' => ∃ v, e = .returned (.tuple #[.agg v, .bool (p.d.trust s).isSome]) ∧ SideOf w' (p.d.trust s).isSome v s ((p.d.trust s).getD 0) (p.d.who s) ∧ Below w.heap.size w w' := by
 obtain ⟨d, A0, c0, A1, c1, A2, c2, A3, c3, A4, c4, A5, c5, A6, c6, A7, c7, A8, c8, A9, c9, A10, c10⟩ := p
 have hmax : d.subs.length ≤ 9223372036854775807 := hp.h1.2.1
 have HP := jA hp
 have HD := jA hd
 have HS := jA hs
 clear hd hp hs
 have hT := Two.start (Pol.mk d A0 c0 A1 c1 A2 c2 A3 c3 A4 c4 A5 c5 A6 c6 A7 c7 A8 c8 A9 c9 A10 c10) w
 have e1 := hT.s0.cell 1
 simp only [Pol.cells, Jt, Ju, Jv, noneV] at e1
 have HT := jA hT
 clear hT
 have hz := z95
 have hPost : ∀ v W, (∃ v', v = v' ∧ SideOf W (d.trust s).isSome v' s ((d.trust s).getD 0) (d.who s)) → True := fun _ _ _ => trivial
 clear hPost
 unfold Pol.cells
 unfold Pol.cells noneV at HT
 simp only [] at HT e1 ⊢
 go_enter Try.func60, Try.ntmps60
 go_wp2
 clear e1
 go_loopw [12] (fun u wr => ∃ k : Nat, k ≤ d.subs.length ∧ u = .int .i64 k ∧ Aside0 (Two (Pol.mk d A0 c0 A1 c1 A2 c2 A3 c3 A4 c4 A5 c5 A6 c6 A7 c7 A8 c8 A9 c9 A10 c10) w wr noneV) ∧ Aside0 (∀ x ∈ d.subs.take k, x.f0 ≠ s)) (fun u _ => d.subs.length - (intOf u).toNat)
 case atStart => exact ⟨0, Nat.zero_le _, rfl, HT, ⟨by simp⟩⟩
 case round =>
  obtain ⟨k, hk, rfl, HR, HN⟩ := hrel
  by_cases hlt : k < d.subs.length
  ·obtain ⟨ad, e0, hx0, hx1⟩ := at_T54 (HP.out.below HR.out.below).h1 (k : Int) (by omega) (by simp only []; omega)
   have hget : rd_T54 d.subs (k : Int) = d.subs[k] := by simp [rd_T54, hlt]
   simp only [hget, Int.toNat_natCast] at hx0 hx1
   have e0 : A1 = some ad := e0
   subst e0
   have htk : d.subs.take (k + 1) = d.subs.take k ++ [d.subs[k]] := List.take_succ_eq_append_getElem hlt
   have htr := trust_skip (s := s) hlt HN.out
   obtain ⟨x, hxx⟩ : ∃ x, x = d.subs[k] := ⟨_, rfl⟩
   rw [← hxx] at hx0 hx1 htk htr
   have HTK := jA htk
   have HTR := jA htr
   have hcw : ∀ (j : Nat) (v : Value), ([.string x.f0, .float .f64 x.f1] : List Value)[j]? = some v → wr.cell? ((ad.add (k * 2)).add j) = some v := by
    intro j v hj
    have hj2 : j < 2 := (List.getElem?_eq_some_iff.1 hj).1
    have : j = 0 ∨ j = 1 := by omega
    rcases this with rfl | rfl
    ·obtain rfl : Value.string x.f0 = v := by simpa using hj
     rw [Addr.add_zero']; exact hx0
    ·obtain rfl : Value.float .f64 x.f1 = v := by simpa using hj
     rw [add_add, add_field _ _ 1 (by omega)]; exact hx1
   have HCW := jA hcw
   have c0' : (k : Int) < d.subs.length := by omega
   clear hx0 hx1 hget htk htr hxx hcw
   go_upto_region 4 with (first | ((with_reducible refine gate_dst (N := 15) rfl ?_); refine wpList_load_at rfl 54 (.tmp 14) rfl (ad.add (k * 2)) ?hx [.string x.f0, .float .f64 x.f1] HCW.out _ Try.underlying54 rfl i54 ?_; (case hx => rfl); refine wpList_alloc_store rfl rfl 54 7 (.tmp 15) rfl rfl rfl #[.string ⟨#[]⟩, .float .f64 0] #[.string x.f0, .float .f64 x.f1] _ (z54 _) rfl i54 rfl (by simp [Value.oneCell']) ?hy ?hp ?_; (case hy => rfl); (case hp => rfl)))
   simp only [Act.put, List.setIfInBounds_toArray, List.set_cons_succ, List.set_cons_zero]
   have hS2 := heap_alloc_new wr (.cells #[.string x.f0, .float .f64 x.f1] 54)
   have hT2 := HR.out.move (below_alloc (Below.refl _ wr) (.cells #[.string x.f0, .float .f64 x.f1] 54))
   obtain ⟨W2, hW2⟩ : ∃ W2, W2 = wr.alloc (.cells #[.string x.f0, .float .f64 x.f1] 54) := ⟨_, rfl⟩
   obtain ⟨g7, hg7⟩ : ∃ g7, g7 = wr.heap.size := ⟨_, rfl⟩
   rw [← hg7] at hS2 ⊢
   rw [← hW2] at hS2 hT2 ⊢
   have hS2 : Stays W2 g7 #[.string x.f0, .float .f64 x.f1] 54 := hS2
   have x0 : W2.cell? ⟨g7, 0, none⟩ = some (.string x.f0) := hS2.cell 0
   have e5 := hT2.s0.cell 5
   have e6 := hT2.s0.cell 6
   simp only [Pol.cells, Jt, Ju, Jv] at e5 e6
   have HT2 := jA hT2
   have HS2 := jA hS2
   clear hS2 hT2 hW2 hg7
   by_cases he : x.f0 = s
   ·have hq : (x.f0.toList == s.toList) = true := by rw [he]; exact beq_self_eq_true _
    have Ze := jA (HTR.out he)
    clear he
    go_upto_region 6 with (first | (go_at_call 75; (with_reducible refine (stand_calls s A5 c5 d.mem A6 c6 d.inh _ (HP.out.below HT2.out.below).h5 (HP.out.below HT2.out.below).h6 HS.out (fun q hq => (List.mem_append.1 hq).elim (HD.out.mem q) (HD.out.inh q)) (by have := HD.out.lmem; have := HD.out.linh; omega)).mono ?_); rintro e w3 ⟨b, rfl, hS, hge, hb3⟩; have HT3 := jA (HT2.out.move hb3); have HS3 := jA (HS2.out.below hb3); have HSET := jA hS; have HLT := jA hS.lt; have HNE := jA (show b ≠ w.heap.size + 1 by have := (Array.getElem?_eq_some_iff.1 HT2.out.s1).1; omega); clear hS hge hb3) | ((with_reducible refine gate_dst (N := 8) rfl ?_); refine wpList_alloc_store rfl rfl 95 8 (.tmp 25) rfl rfl rfl noneV (sideV s 0 b) _ (z95 _) rfl i95 rfl (by simp [sideV, Value.oneCell']) ?hy ?hp ?_; (case hy => rfl); (case hp => rfl)))
    simp only [Act.put, List.setIfInBounds_toArray, List.set_cons_succ, List.set_cons_zero]
    have hS4 := heap_alloc_new w3 (.cells (sideV s 0 b) 95)
    have hb4 := below_alloc (Below.refl _ w3) (.cells (sideV s 0 b) 95)
    have hT4 := HT3.out.move hb4
    have hS7 := HS3.out.below hb4
    have Za := HSET.out.below hb4
    obtain ⟨W4, hW4⟩ : ∃ W4, W4 = w3.alloc (.cells (sideV s 0 b) 95) := ⟨_, rfl⟩
    obtain ⟨g8, hg8⟩ : ∃ g8, g8 = w3.heap.size := ⟨_, rfl⟩
    rw [← hg8] at hS4 ⊢
    rw [← hW4] at hS4 hT4 hS7 Za ⊢
    have hb8 : b ≠ g8 := by rw [hg8]; exact Nat.ne_of_lt HLT.out
    have h18 : w.heap.size + 1 < g8 := by rw [hg8]; exact (Array.getElem?_eq_some_iff.1 HT3.out.s1).1
    have hS4 : Stays W4 g8 (sideV s 0 b) 95 := hS4
    have x1 : W4.cell? ⟨g7, 1, none⟩ = some (.float .f64 x.f1) := hS7.cell 1
    have hth : W4.there g8 1 1 := fun j hj => by
     obtain rfl : j = 0 := by omega
     exact ⟨by rw [hS4.cell]; rfl, MPut.frozen_of_row hS4 _⟩
    have hS5 : Stays (W4.setCell ⟨g8, 1, none⟩ (.float .f64 x.f1)) g8 (sideV s x.f1 b) 95 := blk_put hS4 1 _ rfl
    have h15 : Stays (W4.setCell ⟨g8, 1, none⟩ (.float .f64 x.f1)) (w.heap.size + 1) noneV 95 := (Below.heap_setCell _ _ _ _ (by show w.heap.size + 1 ≠ g8; omega)).trans hT4.s1
    have Zb : IsSet (W4.setCell ⟨g8, 1, none⟩ (.float .f64 x.f1)) b (d.who s) := by
     obtain ⟨f, n, hM, hf⟩ := Za
     exact ⟨f, n, hM.setCell (by show g8 ≠ b; exact hb8.symm) _, hf⟩
    have Zc : Below w.heap.size w (W4.setCell ⟨g8, 1, none⟩ (.float .f64 x.f1)) := below_set hT4.below (by omega)
    have HTH := jA hth
    have HS5 := jA hS5
    have H15 := jA h15
    have Zd := jA Zb
    have HBEL := jA Zc
    clear hS4 hb4 hT4 hS7 Za hW4 hg8 hth hS5 h15 Zb Zc
    go_wp2_with (first | ((with_reducible refine gate_store (t := 52) (p := 28) (v := .tmp 27) rfl ?_); refine wpList_store_one rfl 52 (.tmp 28) (.tmp 27) rfl g8 1 (.float .f64 x.f1) rfl rfl ?hx ?hy HTH.out i52 ?_; (case hx => rfl); (case hy => rfl)) | ((with_reducible refine gate_dst (N := 29) rfl ?_); refine wpList_load_blk rfl 95 (.tmp 8) rfl g8 ?hx (sideV s x.f1 b) 95 HS5.out _ Try.underlying95 rfl i95 ?_; (case hx => rfl); refine wpList_store_var rfl 95 (.tmp 4) (.tmp 29) rfl (w.heap.size + 1) (sideV s x.f1 b) ?hx ?hy H15.out rfl i95 (by simp [sideV, Value.oneCell']) ?_; (case hx => rfl); (case hy => rfl)))
    (try simp only [Exit.inBlock, Exit.then])
    refine bodyPost_ret (results_ct rfl _ _ (w.heap.size + 1) 95 (sideV s x.f1 b) (0, 0) _ rfl (setCells_var H15.out rfl) Try.underlying95 rfl i95) rfl ?_
    rw [Ze.out]
    exact ⟨sideV s x.f1 b, rfl, ⟨fun _ => ⟨b, rfl, setCells_set Zd.out HNE.out _⟩, fun e => (by cases e)⟩, setCells_below HBEL.out (by omega) _⟩
   ·have hq : (x.f0.toList == s.toList) = false := by
     rw [Bool.eq_false_iff]
     intro e
     rw [beq_iff_eq, ByteArray.toList_eq, ByteArray.toList_eq] at e
     exact he (ByteArray.ext (Array.toList_inj.mp e))
    have HE := jA he
    clear he
    go_wp2
    go_roundw
    case rel => exact ⟨k + 1, by omega, by go_num, HT2, ⟨fun y hy => by rw [HTK.out, List.mem_append, List.mem_singleton] at hy; rcases hy with hy | rfl; exact HN.out y hy; exact HE.out⟩⟩
    case measure => simp [intOf]; omega
  ·have hkk : k = d.subs.length := by omega
   subst hkk
   have htn := trust_none (d := d) (s := s) (fun x hx => HN.out x (by rw [List.take_length]; exact hx))
   have HTN := jA htn
   clear htn
   go_wp2_with (first | ((with_reducible refine gate_store (t := 95) (p := 4) (v := .tmp 31) rfl ?_); refine wpList_store_var rfl 95 (.tmp 4) (.tmp 31) rfl (w.heap.size + 1) noneV ?hx ?hy HR.out.s1 rfl i95 (by simp [noneV, Value.oneCell']) ?_; (case hx => rfl); (case hy => rfl)))
   (try simp only [Exit.inBlock, Exit.then])
   refine bodyPost_ret (results_ct rfl _ _ (w.heap.size + 1) 95 noneV (0, 0) _ rfl (setCells_var HR.out.s1 rfl) Try.underlying95 rfl i95) rfl ?_
   rw [HTN.out]
   exact ⟨noneV, rfl, ⟨fun e => (by cases e), fun _ => rfl⟩, setCells_below HR.out.below (by omega) _⟩
end Go.Proofs.Ythaiodklfoegiaa.MPol
/- mean.about. -/
namespace Go.Proofs.Ythaiodklfoegiaa.MPol
open Go.RowKit YthaiodklfoegiaaW.PrintWords YthaiodklfoegiaaW.PrintLast YthaiodklfoegiaaW.PrintMore BMap BRow MLines MPut MClose MConcat MStand MSide Go.Maps
open PG YthaiodklfoegiaaF
structure Abt (p : Pol) (w W : World) (v1 v2 : Array Value) (b1 b2 : Nat) (R1 R2 : ByteArray → Prop) : Prop where
 below : Below w.heap.size w W
 s0 : Stays W w.heap.size p.cells 39
 s1 : Stays W (w.heap.size + 1) v1 95
 s2 : Stays W (w.heap.size + 1 + 1) v2 95
 set1 : IsSet W b1 R1
 set2 : IsSet W b2 R2
theorem Abt.move {p : Pol} {w W W1 : World} {v1 v2 : Array Value} {b1 b2 : Nat} {R1 R2 : ByteArray → Prop} (h : Abt p w W v1 v2 b1 b2 R1 R2) (hb : Below W.heap.size W W1) : Abt p w W1 v1 v2 b1 b2 R1 R2 :=
 ⟨below_then h.below h.below.size hb, h.s0.below hb, h.s1.below hb, h.s2.below hb, h.set1.below hb, h.set2.below hb⟩
theorem Abt.start (p : Pol) (w : World) (v1 v2 : Array Value) {b1 b2 : Nat} {R1 R2 : ByteArray → Prop} (h1 : IsSet w b1 R1) (h2 : IsSet w b2 R2) : Abt p w (((w.alloc (.cells p.cells 39)).alloc (.cells v1 95)).alloc (.cells v2 95)) v1 v2 b1 b2 R1 R2 := by
 have hb1 : Below w.heap.size w (w.alloc (.cells p.cells 39)) := below_alloc (Below.refl _ _) _
 have hb2 := below_alloc hb1 (.cells v1 95)
 have hb3 := below_alloc hb2 (.cells v2 95)
 have e1 := heap_alloc_new (w.alloc (.cells p.cells 39)) (.cells v1 95)
 have e2 := heap_alloc_new ((w.alloc (.cells p.cells 39)).alloc (.cells v1 95)) (.cells v2 95)
 rw [World.size_alloc] at e1
 rw [World.size_alloc, World.size_alloc] at e2
 exact ⟨hb3, (Below.heap_alloc _ _ _ (by simp only [World.size_alloc]; omega)).trans ((Below.heap_alloc _ _ _ (by simp only [World.size_alloc]; omega)).trans (heap_alloc_new w _)), (Below.heap_alloc _ _ _ (by simp only [World.size_alloc]; omega)).trans e1, e2, h1.below hb3, h2.below hb3⟩
theorem Abt.grown {p : Pol} {w W W1 : World} {v1 v2 : Array Value} {b1 b2 : Nat} {R1 R2 : ByteArray → Prop} (h : Abt p w W v1 v2 b1 b2 R1 R2) {row : Option Nat} (hg : W.grownBy W1 row) (hb : Below w.heap.size w W1) (h0 : some w.heap.size ≠ row) (h1 : some (w.heap.size + 1) ≠ row) (h2 : some (w.heap.size + 1 + 1) ≠ row) (h3 : some b1 ≠ row) (h4 : some b2 ≠ row) : Abt p w W1 v1 v2 b1 b2 R1 R2 := by
 have mv : ∀ {b : Nat} {R : ByteArray → Prop}, IsSet W b R → some b ≠ row → IsSet W1 b R := by
  rintro b R ⟨f, n, hM, hf⟩ hne
  exact ⟨f, n, hM.grown hg hne, hf⟩
 exact ⟨hb, (hg.block _ (Array.getElem?_eq_some_iff.1 h.s0).1 h0).trans h.s0, (hg.block _ (Array.getElem?_eq_some_iff.1 h.s1).1 h1).trans h.s1, (hg.block _ (Array.getElem?_eq_some_iff.1 h.s2).1 h2).trans h.s2, mv h.set1 h3, mv h.set2 h4⟩
theorem z78v (w : World) : (zeroValue 78).run Try.prog w = .ok (.agg #[(.bool false), (.string ⟨#[]⟩), (.string ⟨#[]⟩), (.slice none 0 0), (.int .i8 0), (.float .f64 0)]) w := by kernel_rfl
theorem speaks_go (r : S78) (A3 : Option Addr) (c3 : Nat) (n1 : ByteArray) (t1 b1 : Nat) (R1 : ByteArray → Prop) (n2 : ByteArray) (t2 b2 : Nat) (R2 : ByteArray → Prop) (w : World) (q : Bool) (hq : speaksB r R1 R2 t1 = q)
  (hC : Kd.C Kd.string w A3 r.f3.length r.f3) (hc : r.f3.length ≤ c3) (h1 : IsSet w b1 R1) (h2 : IsSet w b2 R2) (o1 : okS r.f1) (o2 : okS r.f2) (v1 v2 : Array Value) (hv1 : v1 = sideV n1 t1 b1) (hv2 : v2 = sideV n2 t2 b2) :
  Calls Try.prog 78 #[.agg (ruleV r A3 c3), .agg v1, .agg v2] w fun e w' => e = .returned (.bool q) ∧ Below w.heap.size w w' := by
 subst hq; subst hv1; subst hv2; exact speaks_calls r A3 c3 n1 t1 b1 R1 n2 t2 b2 R2 w hC hc h1 h2 o1 o2
end Go.Proofs.Ythaiodklfoegiaa.MPol
namespace Go.Proofs.Ythaiodklfoegiaa.PG
open YthaiodklfoegiaaF
attribute [local go_sem high] run_feq run_fne run_flt_lt run_flt_le run_flt_gt run_flt_ge
open Go.RowKit YthaiodklfoegiaaW.PrintWords YthaiodklfoegiaaW.PrintLast YthaiodklfoegiaaW.PrintMore
attribute [local go_sem] max2_int min2_int max_two min_two max_three min_three max_four min_four
def mean_names.f (k : Nat) (Zd : Bool) (Ze : ByteArray) (Zf : ByteArray) (Zc : List ByteArray) (Zg : Int) (Zh : Nat) (a1 : ByteArray) : Option (Bool) := if (Zc.length : Int) = 0 then (some true) else ((slices_Contains_string_string.f k Zc a1).bind fun Zi => (some Zi))
theorem mean_names.calls (k : Nat) (Zd : Bool) (Ze : ByteArray) (Zf : ByteArray) (Zj : Option Addr) (Zk : Nat) (Zc : List ByteArray) (Zg : Int) (Zh : Nat) (a1 : ByteArray) (r : Bool) (w : World) (Zm : Kd.C Kd.string w Zj Zc.length Zc) (Zn : Zc.length ≤ Zk) (h : mean_names.f k Zd Ze Zf Zc Zg Zh a1 = some r) :
  Calls Try.prog 76 #[.agg #[.bool Zd, .string Ze, .string Zf, .slice Zj Zc.length Zk, .int .i8 Zg, .float .f64 Zh], .string a1] w fun e w' => e = .returned (.bool r) ∧ Below w.heap.size w w' := by
 have ZR := Try.underlying78
 have Zo := jA Zm
 have Zp := jA Zn
 clear Zm Zn
 have HB := jA (Below.refl w.heap.size w)
 have H : (if (Zc.length : Int) = 0 then (some true) else ((slices_Contains_string_string.f k Zc a1).bind fun Zi => (some Zi))) = some r := h
 clear h
 by_cases c3 : (Zc.length : Int) = 0
 ·rw [if_pos c3] at H
  have c3b0 : ((Zc.length : Int) == 0) = true := beq_iff_eq.mpr c3
  have c3b1 : ((Zc.length : Int) != 0) = false := bne_eq_false_iff_eq.mpr c3
  clear c3
  obtain rfl := Option.some.inj H
  go_enter Try.func76, Try.ntmps76
  go_wp2_with (first | ((with_reducible refine gate_dst (N := 2) rfl ?_); refine box_event ?hg (N := 2) ?hd (cs := #[.bool Zd, .string Ze, .string Zf, .slice Zj Zc.length Zk, .int .i8 Zg, .float .f64 Zh]) (t := 78) ?hr ?_; (case hd => rfl); (case hg => rfl); (case hr => first | (go_simp; done) | (go_simp; rfl)); intro Zb hg w4 hbox hb; have n0_ := jA (below_step (by repeat (first | (with_reducible first | exact HB.out | apply below_alloc | apply pw_below_drewN | apply below_drew1) | exact HB.out)) hb); have n1_ := jA (hbox); have n2_ := jA ((by rw [hg]; exact (below_size (by repeat (first | (with_reducible first | exact HB.out | apply below_alloc | apply pw_below_drewN | apply below_drew1) | exact HB.out))) : w.heap.size ≤ Zb)); have n3_ := jA ((by rw [hg]; exact (below_size (by repeat (first | (with_reducible first | exact HB.out | apply below_alloc | apply pw_below_drewN | apply below_drew1) | exact HB.out))) : w.heap.size ≤ Zb)); clear HB; have HB := n0_; have Za := n1_; have Zq := n2_; have Zl := n3_; clear n0_ n1_ n2_ n3_; clear hb hbox hg; have Zt : w4.cell? ⟨Zb, 0, none⟩ = some (.bool Zd) := (blk_cell Za.out 0).trans rfl; have Zu : w4.cell? ⟨Zb, 1, none⟩ = some (.string Ze) := (blk_cell Za.out 1).trans rfl; have Zv : w4.cell? ⟨Zb, 2, none⟩ = some (.string Zf) := (blk_cell Za.out 2).trans rfl; have Zw : w4.cell? ⟨Zb, 3, none⟩ = some (.slice Zj Zc.length Zk) := (blk_cell Za.out 3).trans rfl; have Zx : w4.cell? ⟨Zb, 4, none⟩ = some (.int .i8 Zg) := (blk_cell Za.out 4).trans rfl; have Zy : w4.cell? ⟨Zb, 5, none⟩ = some (.float .f64 Zh) := (blk_cell Za.out 5).trans rfl; have Zz := blk_frozen Za.out 0; have ZA := blk_frozen Za.out 1; have ZB := blk_frozen Za.out 2; have ZC := blk_frozen Za.out 3; have ZD := blk_frozen Za.out 4; have ZE := blk_frozen Za.out 5))
  go_ret
  exact ⟨by first | rfl | (simp [errW_none, errW_some] <;> rfl) | (simp [*, errW_none, errW_some] <;> rfl), by repeat (first | (with_reducible first | exact HB.out | apply below_alloc | apply pw_below_drewN | apply below_drew1 | refine below_set ?_ Zl.out) | exact HB.out)⟩
 ·rw [if_neg c3] at H
  have c3b0 : ((Zc.length : Int) == 0) = false := beq_eq_false_iff_ne.mpr c3
  have c3b1 : ((Zc.length : Int) != 0) = true := bne_iff_ne.mpr c3
  have c3b2 : ¬ (Zc = []) := fun h_ => c3 (by rw [h_]; rfl)
  replace H := Option.bind_eq_some_iff.mp H
  obtain ⟨Zi, A60, H⟩ := H
  replace H : (some Zi) = some r := H
  have A6 := jA A60
  clear A60
  obtain rfl := Option.some.inj H
  go_enter Try.func76, Try.ntmps76
  go_wp2_with (first | ((with_reducible refine gate_dst (N := 2) rfl ?_); refine box_event ?hg (N := 2) ?hd (cs := #[.bool Zd, .string Ze, .string Zf, .slice Zj Zc.length Zk, .int .i8 Zg, .float .f64 Zh]) (t := 78) ?hr ?_; (case hd => rfl); (case hg => rfl); (case hr => first | (go_simp; done) | (go_simp; rfl)); intro Zb hg w7 hbox hb; have n0_ := jA (below_step (by repeat (first | (with_reducible first | exact HB.out | apply below_alloc | apply pw_below_drewN | apply below_drew1) | exact HB.out)) hb); have n1_ := jA (hbox); have n2_ := jA ((by rw [hg]; exact (below_size (by repeat (first | (with_reducible first | exact HB.out | apply below_alloc | apply pw_below_drewN | apply below_drew1) | exact HB.out))) : w.heap.size ≤ Zb)); have n3_ := jA ((by rw [hg]; exact (below_size (by repeat (first | (with_reducible first | exact HB.out | apply below_alloc | apply pw_below_drewN | apply below_drew1) | exact HB.out))) : w.heap.size ≤ Zb)); clear HB; have HB := n0_; have Za := n1_; have Zq := n2_; have Zl := n3_; clear n0_ n1_ n2_ n3_; clear hb hbox hg; have ZF : w7.cell? ⟨Zb, 0, none⟩ = some (.bool Zd) := (blk_cell Za.out 0).trans rfl; have ZG : w7.cell? ⟨Zb, 1, none⟩ = some (.string Ze) := (blk_cell Za.out 1).trans rfl; have ZH : w7.cell? ⟨Zb, 2, none⟩ = some (.string Zf) := (blk_cell Za.out 2).trans rfl; have ZI : w7.cell? ⟨Zb, 3, none⟩ = some (.slice Zj Zc.length Zk) := (blk_cell Za.out 3).trans rfl; have ZJ : w7.cell? ⟨Zb, 4, none⟩ = some (.int .i8 Zg) := (blk_cell Za.out 4).trans rfl; have ZK : w7.cell? ⟨Zb, 5, none⟩ = some (.float .f64 Zh) := (blk_cell Za.out 5).trans rfl; have ZL := blk_frozen Za.out 0; have ZM := blk_frozen Za.out 1; have ZN := blk_frozen Za.out 2; have ZO := blk_frozen Za.out 3; have ZP := blk_frozen Za.out 4; have ZQ := blk_frozen Za.out 5) | (go_at_call 62; (with_reducible refine (slices_Contains_string_string.calls k _ _ Zc a1 Zi _ ?Zr ?Zs A6.out).mono ?_); (case Zr => repeat (first | exact (Kd.C_below Zo.out HB.out) | (with_reducible refine Kd.C_alloc ?_ _) | (with_reducible refine Kd.C_drewN ?_ _) | (with_reducible refine Kd.C_drew ?_))); (case Zs => exact Zp.out); rintro e w' ⟨rfl, ⟨nd, rfl⟩⟩))
  go_ret
  exact ⟨by first | rfl | (simp [errW_none, errW_some] <;> rfl) | (simp [*, errW_none, errW_some] <;> rfl), by repeat (first | (with_reducible first | exact HB.out | apply below_alloc | apply pw_below_drewN | apply below_drew1 | refine below_set ?_ Zl.out) | exact HB.out)⟩
end Go.Proofs.Ythaiodklfoegiaa.PG
namespace Go.Proofs.Ythaiodklfoegiaa.PG
open YthaiodklfoegiaaF
attribute [local go_sem high] run_feq run_fne run_flt_lt run_flt_le run_flt_gt run_flt_ge
open Go.RowKit YthaiodklfoegiaaW.PrintWords YthaiodklfoegiaaW.PrintLast YthaiodklfoegiaaW.PrintMore
attribute [local go_sem] max2_int min2_int max_two min_two max_three min_three max_four min_four
attribute [local go_sem high] eqA28
def api_Triple_84.l0 : Nat → List (S28) → Int → Int → ByteArray → ByteArray → ByteArray → Option (Int)
 | 0, _, _, _, _, _, _ => none
 | k + 1, x0, x7, x8, Zm, Zn, Zo => if x8 < x7 then (if 0 ≤ x8 then (if x8 < (x0.length : Int) then (if (Zm.toList == (((rd_T28 x0 x8).f0).toList) && (Zn.toList == (((rd_T28 x0 x8).f1).toList) && (Zo.toList == (((rd_T28 x0 x8).f2).toList)))) = true then (some x8) else (api_Triple_84.l0 k x0 x7 (wrap64 (x8 + 1)) Zm Zn Zo)) else (none)) else (none)) else (some (-1))
def api_Triple_84.f (k : Nat) (l0 : List (S28)) (Zd : ByteArray) (Ze : ByteArray) (Zf : ByteArray) : Option (Int) := api_Triple_84.l0 k l0 (l0.length : Int) 0 Zd Ze Zf
theorem api_Triple_84.calls (k : Nat) (A0 : Option Addr) (c0 : Nat) (l0 : List (S28)) (Zd : ByteArray) (Ze : ByteArray) (Zf : ByteArray) (r : Int) (w : World) (hr0 : Kd.C k28 w A0 l0.length l0) (hc0 : l0.length ≤ c0) (h : api_Triple_84.f k l0 Zd Ze Zf = some r) :
  Calls Try.prog 84 #[.slice A0 l0.length c0, .agg #[.string Zd, .string Ze, .string Zf]] w fun e w' => e = .returned (.int .i64 r) ∧ Below w.heap.size w w' := by
 have ZE := Try.underlying28
 have HR0 := jA hr0
 have HC0 := jA hc0
 clear hr0 hc0
 have HB := jA (Below.refl w.heap.size w)
 have H : (api_Triple_84.l0 k l0 (l0.length : Int) 0 Zd Ze Zf) = some r := h
 clear h
 have H' := jA H
 clear H
 go_enter Try.func84, Try.ntmps84
 go_wp2_with (first | ((with_reducible refine gate_dst (N := 3) rfl ?_); refine box_event ?hg (N := 3) ?hd (cs := #[.string Zd, .string Ze, .string Zf]) (t := 28) ?hr ?_; (case hd => rfl); (case hg => rfl); (case hr => first | (go_simp; done) | (go_simp; rfl)); intro Zc hg w3 hbox hb; have n0_ := jA (below_step (by repeat (first | (with_reducible first | exact HB.out | apply below_alloc | apply pw_below_drewN | apply below_drew1) | exact HB.out)) hb); have n1_ := jA (hbox); have n2_ := jA ((by rw [hg]; exact (below_size (by repeat (first | (with_reducible first | exact HB.out | apply below_alloc | apply pw_below_drewN | apply below_drew1) | exact HB.out))) : w.heap.size ≤ Zc)); have n3_ := jA ((by rw [hg]; exact (below_size (by repeat (first | (with_reducible first | exact HB.out | apply below_alloc | apply pw_below_drewN | apply below_drew1) | exact HB.out))) : w.heap.size ≤ Zc)); clear HB; have HB := n0_; have Zb := n1_; have Zp := n2_; have Zj := n3_; clear n0_ n1_ n2_ n3_; clear hb hbox hg))
 repeat (go_quiet (first | ((with_reducible refine gate_dst (N := 3) rfl ?_); refine box_event ?hg (N := 3) ?hd (cs := #[.string Zd, .string Ze, .string Zf]) (t := 28) ?hr ?_; (case hd => rfl); (case hg => rfl); (case hr => first | (go_simp; done) | (go_simp; rfl)); intro Zc hg w3 hbox hb; have n0_ := jA (below_step (by repeat (first | (with_reducible first | exact HB.out | apply below_alloc | apply pw_below_drewN | apply below_drew1) | exact HB.out)) hb); have n1_ := jA (hbox); have n2_ := jA ((by rw [hg]; exact (below_size (by repeat (first | (with_reducible first | exact HB.out | apply below_alloc | apply pw_below_drewN | apply below_drew1) | exact HB.out))) : w.heap.size ≤ Zc)); have n3_ := jA ((by rw [hg]; exact (below_size (by repeat (first | (with_reducible first | exact HB.out | apply below_alloc | apply pw_below_drewN | apply below_drew1) | exact HB.out))) : w.heap.size ≤ Zc)); clear HB; have HB := n0_; have Zb := n1_; have Zp := n2_; have Zj := n3_; clear n0_ n1_ n2_ n3_; clear hb hbox hg)); try go_wp2_with (first | ((with_reducible refine gate_dst (N := 3) rfl ?_); refine box_event ?hg (N := 3) ?hd (cs := #[.string Zd, .string Ze, .string Zf]) (t := 28) ?hr ?_; (case hd => rfl); (case hg => rfl); (case hr => first | (go_simp; done) | (go_simp; rfl)); intro Zc hg w3 hbox hb; have n0_ := jA (below_step (by repeat (first | (with_reducible first | exact HB.out | apply below_alloc | apply pw_below_drewN | apply below_drew1) | exact HB.out)) hb); have n1_ := jA (hbox); have n2_ := jA ((by rw [hg]; exact (below_size (by repeat (first | (with_reducible first | exact HB.out | apply below_alloc | apply pw_below_drewN | apply below_drew1) | exact HB.out))) : w.heap.size ≤ Zc)); have n3_ := jA ((by rw [hg]; exact (below_size (by repeat (first | (with_reducible first | exact HB.out | apply below_alloc | apply pw_below_drewN | apply below_drew1) | exact HB.out))) : w.heap.size ≤ Zc)); clear HB; have HB := n0_; have Zb := n1_; have Zp := n2_; have Zj := n3_; clear n0_ n1_ n2_ n3_; clear hb hbox hg)))
 go_loopg [8] k (fun kq v8 w' => ∃ (Za : Int), v8 = .int .i64 Za ∧ Aside0 (api_Triple_84.l0 kq l0 (l0.length : Int) Za Zd Ze Zf = some r) ∧ Aside0 (kq ≤ k) ∧ Aside0 (w'.heap[Zc]? = some (.cells #[.string Zd, .string Ze, .string Zf] 28 (0, 0))) ∧ Aside0 (Below w.heap.size w w'))
 case atStart => exact ⟨(0), (by first | rfl | (simp; done) | (simp [*]; done)), H', ⟨Nat.le_refl _⟩, ⟨by (with_reducible repeat (first | refine blk_drewN ?_ _ | refine blk_drew ?_ | refine blk_alloc ?_ _)); exact Zb.out⟩, ⟨by repeat (first | (with_reducible first | exact HB.out | apply below_alloc | apply pw_below_drewN | apply below_drew1 | refine below_set ?_ Zj.out) | exact HB.out)⟩⟩
 case round =>
  clear H'
  try clear p2
  obtain ⟨Za, rfl, HA, HK1, Zb, HB⟩ := hrel
  cases gk with
  | zero => exact absurd HA.out (by simp [api_Triple_84.l0])
  | succ k1 =>
   have H := HA.out
   clear HA
   simp only [api_Triple_84.l0] at H
   by_cases c4 : Za < (l0.length : Int)
   ·rw [if_pos c4] at H
    have c4b0 : decide (Za < (l0.length : Int)) = true := decide_eq_true c4
    clear c4
    by_cases c5 : 0 ≤ Za
    ·rw [if_pos c5] at H
     have c5b0 : decide (0 ≤ Za) = true := decide_eq_true c5
     clear c5
     by_cases c6 : Za < (l0.length : Int)
     ·rw [if_pos c6] at H
      have c6b0 : decide (Za < (l0.length : Int)) = true := decide_eq_true c6
      clear c6
      by_cases c7 : (Zd.toList == (((rd_T28 l0 Za).f0).toList) && (Ze.toList == (((rd_T28 l0 Za).f1).toList) && (Zf.toList == (((rd_T28 l0 Za).f2).toList)))) = true
      ·rw [if_pos c7] at H
       have c7b0 : (Zd.toList == (((rd_T28 l0 Za).f0).toList) && (Ze.toList == (((rd_T28 l0 Za).f1).toList) && (Zf.toList == (((rd_T28 l0 Za).f2).toList)))) = true := c7
       (try (have c7b1 : decide (Zd.toList = (((rd_T28 l0 Za).f0).toList) && (Ze.toList == (((rd_T28 l0 Za).f1).toList) && (Zf.toList == (((rd_T28 l0 Za).f2).toList)))) = true := by simpa using c7))
       (try (have c7b2 : (Zd.toList == (((rd_T28 l0 Za).f0).toList) && (Ze.toList == (((rd_T28 l0 Za).f1).toList) && (Zf.toList == (((rd_T28 l0 Za).f2).toList)))) = true := by simpa using c7))
       clear c7
       obtain rfl := Option.some.inj H
       have Zs : wr.cell? ⟨Zc, 0, none⟩ = some (.string Zd) := (blk_cell Zb.out 0).trans rfl
       have Zt : wr.cell? ⟨Zc, 1, none⟩ = some (.string Ze) := (blk_cell Zb.out 1).trans rfl
       have Zu : wr.cell? ⟨Zc, 2, none⟩ = some (.string Zf) := (blk_cell Zb.out 2).trans rfl
       have Zv := blk_frozen Zb.out 0
       have Zw := blk_frozen Zb.out 1
       have Zx := blk_frozen Zb.out 2
       have Zk : 0 ≤ (Za : Int) := of_decide_eq_true (by first | (with_reducible assumption) | assumption)
       have Zl : Za < (l0.length : Int) := of_decide_eq_true (by first | (with_reducible assumption) | assumption)
       obtain ⟨Zr, Zq, Zg, Zh, Zi⟩ := at_T28 HR0.out Za Zk Zl
       cases Zq
       replace Zg := (HB.out.cell (World.block_lt_of_cell? w _ Zg)).trans Zg
       replace Zh := (HB.out.cell (World.block_lt_of_cell? w _ Zh)).trans Zh
       replace Zi := (HB.out.cell (World.block_lt_of_cell? w _ Zi)).trans Zi
       replace Zk := eq_true Zk
       replace Zl := eq_true Zl
       go_wp2
       repeat (go_quiet (fail); try go_wp2)
       go_ret
       exact ⟨by first | rfl | (simp [errW_none, errW_some] <;> rfl) | (simp [*, errW_none, errW_some] <;> rfl), by repeat (first | (with_reducible first | exact HB.out | apply below_alloc | apply pw_below_drewN | apply below_drew1 | refine below_set ?_ Zj.out) | exact HB.out)⟩
      ·rw [if_neg c7] at H
       have c7b0 : (Zd.toList == (((rd_T28 l0 Za).f0).toList) && (Ze.toList == (((rd_T28 l0 Za).f1).toList) && (Zf.toList == (((rd_T28 l0 Za).f2).toList)))) = false := by simpa using c7
       (try (have c7b1 : decide (Zd.toList = (((rd_T28 l0 Za).f0).toList) && (Ze.toList == (((rd_T28 l0 Za).f1).toList) && (Zf.toList == (((rd_T28 l0 Za).f2).toList)))) = false := by simpa using c7))
       (try (have c7b2 : (Zd.toList == (((rd_T28 l0 Za).f0).toList) && (Ze.toList == (((rd_T28 l0 Za).f1).toList) && (Zf.toList == (((rd_T28 l0 Za).f2).toList)))) = false := by simpa using c7))
       (try (have c7b3 : ¬ (Zd.toList = (((rd_T28 l0 Za).f0).toList) && (Ze.toList == (((rd_T28 l0 Za).f1).toList) && (Zf.toList == (((rd_T28 l0 Za).f2).toList)))) := by simpa using c7))
       clear c7
       have H' := jA H
       clear H
       have Zy : wr.cell? ⟨Zc, 0, none⟩ = some (.string Zd) := (blk_cell Zb.out 0).trans rfl
       have Zz : wr.cell? ⟨Zc, 1, none⟩ = some (.string Ze) := (blk_cell Zb.out 1).trans rfl
       have ZA : wr.cell? ⟨Zc, 2, none⟩ = some (.string Zf) := (blk_cell Zb.out 2).trans rfl
       have ZB := blk_frozen Zb.out 0
       have ZC := blk_frozen Zb.out 1
       have ZD := blk_frozen Zb.out 2
       have Zk : 0 ≤ (Za : Int) := of_decide_eq_true (by first | (with_reducible assumption) | assumption)
       have Zl : Za < (l0.length : Int) := of_decide_eq_true (by first | (with_reducible assumption) | assumption)
       obtain ⟨Zr, Zq, Zg, Zh, Zi⟩ := at_T28 HR0.out Za Zk Zl
       cases Zq
       replace Zg := (HB.out.cell (World.block_lt_of_cell? w _ Zg)).trans Zg
       replace Zh := (HB.out.cell (World.block_lt_of_cell? w _ Zh)).trans Zh
       replace Zi := (HB.out.cell (World.block_lt_of_cell? w _ Zi)).trans Zi
       replace Zk := eq_true Zk
       replace Zl := eq_true Zl
       go_wp2
       repeat (go_quiet (fail); try go_wp2)
       go_roundg k1
       case measure => have := HK1.out; omega
       case rel => exact ⟨(wrap64 (Za + 1)), (by first | rfl | (simp; done) | (simp [*]; done)), H', ⟨by have := HK1.out; omega⟩, ⟨by (with_reducible repeat (first | refine blk_drewN ?_ _ | refine blk_drew ?_ | refine blk_alloc ?_ _)); exact Zb.out⟩, ⟨by repeat (first | (with_reducible first | exact HB.out | apply below_alloc | apply pw_below_drewN | apply below_drew1 | refine below_set ?_ Zj.out) | exact HB.out)⟩⟩
     ·rw [if_neg c6] at H
      exact absurd H (by simp)
    ·rw [if_neg c5] at H
     exact absurd H (by simp)
   ·rw [if_neg c4] at H
    have c4b0 : decide (Za < (l0.length : Int)) = false := decide_eq_false c4
    clear c4
    obtain rfl := Option.some.inj H
    go_wp2
    repeat (go_quiet (fail); try go_wp2)
    go_ret
    exact ⟨by first | rfl | (simp [errW_none, errW_some] <;> rfl) | (simp [*, errW_none, errW_some] <;> rfl), by repeat (first | (with_reducible first | exact HB.out | apply below_alloc | apply pw_below_drewN | apply below_drew1 | refine below_set ?_ Zj.out) | exact HB.out)⟩
end Go.Proofs.Ythaiodklfoegiaa.PG
namespace Go.Proofs.Ythaiodklfoegiaa.PG
open YthaiodklfoegiaaF
attribute [local go_sem high] run_feq run_fne run_flt_lt run_flt_le run_flt_gt run_flt_ge
open Go.RowKit YthaiodklfoegiaaW.PrintWords YthaiodklfoegiaaW.PrintLast YthaiodklfoegiaaW.PrintMore
attribute [local go_sem] max2_int min2_int max_two min_two max_three min_three max_four min_four
def api_Triple_77.f (k : Nat) (l0 : List (S28)) (Zb : ByteArray) (Zc : ByteArray) (Zd : ByteArray) : Option (Bool) := (api_Triple_84.f k l0 Zb Zc Zd).bind fun Zf => (some (decide (Zf ≥ 0)))
theorem api_Triple_77.calls (k : Nat) (A0 : Option Addr) (c0 : Nat) (l0 : List (S28)) (Zb : ByteArray) (Zc : ByteArray) (Zd : ByteArray) (r : Bool) (w : World) (hr0 : Kd.C k28 w A0 l0.length l0) (hc0 : l0.length ≤ c0) (h : api_Triple_77.f k l0 Zb Zc Zd = some r) :
  Calls Try.prog 77 #[.slice A0 l0.length c0, .agg #[.string Zb, .string Zc, .string Zd]] w fun e w' => e = .returned (.bool r) ∧ Below w.heap.size w w' := by
 have Zq := Try.underlying28
 have HR0 := jA hr0
 have HC0 := jA hc0
 clear hr0 hc0
 have HB := jA (Below.refl w.heap.size w)
 have H : ((api_Triple_84.f k l0 Zb Zc Zd).bind fun Zf => (some (decide (Zf ≥ 0)))) = some r := h
 clear h
 replace H := Option.bind_eq_some_iff.mp H
 obtain ⟨Zf, A30, H⟩ := H
 replace H : (some (decide (Zf ≥ 0))) = some r := H
 have A3 := jA A30
 clear A30
 obtain rfl := Option.some.inj H
 go_enter Try.func77, Try.ntmps77
 go_wp2_with (first | ((with_reducible refine gate_dst (N := 3) rfl ?_); refine box_event ?hg (N := 3) ?hd (cs := #[.string Zb, .string Zc, .string Zd]) (t := 28) ?hr ?_; (case hd => rfl); (case hg => rfl); (case hr => first | (go_simp; done) | (go_simp; rfl)); intro Ze hg w4 hbox hb; have n0_ := jA (below_step (by repeat (first | (with_reducible first | exact HB.out | apply below_alloc | apply pw_below_drewN | apply below_drew1) | exact HB.out)) hb); have n1_ := jA (hbox); have n2_ := jA ((by rw [hg]; exact (below_size (by repeat (first | (with_reducible first | exact HB.out | apply below_alloc | apply pw_below_drewN | apply below_drew1) | exact HB.out))) : w.heap.size ≤ Ze)); have n3_ := jA ((by rw [hg]; exact (below_size (by repeat (first | (with_reducible first | exact HB.out | apply below_alloc | apply pw_below_drewN | apply below_drew1) | exact HB.out))) : w.heap.size ≤ Ze)); clear HB; have HB := n0_; have Za := n1_; have Zp := n2_; have Zg := n3_; clear n0_ n1_ n2_ n3_; clear hb hbox hg; have Zj : w4.cell? ⟨Ze, 0, none⟩ = some (.string Zb) := (blk_cell Za.out 0).trans rfl; have Zk : w4.cell? ⟨Ze, 1, none⟩ = some (.string Zc) := (blk_cell Za.out 1).trans rfl; have Zl : w4.cell? ⟨Ze, 2, none⟩ = some (.string Zd) := (blk_cell Za.out 2).trans rfl; have Zm := blk_frozen Za.out 0; have Zn := blk_frozen Za.out 1; have Zo := blk_frozen Za.out 2) | ((with_reducible refine gate_callee (f := 84) rfl ?_); refine goesL_ (some 7) rfl rfl Try.func84 (by kernel_rfl) rfl #[.slice A0 l0.length c0, .agg #[.string Zb, .string Zc, .string Zd]] rfl (by (try simp only [List.map_toArray, List.map_cons, List.map_nil]); first | done | rfl | (simp only [List.length_drop, List.length_take]; rfl)) ?_; (with_reducible refine (api_Triple_84.calls k _ _ l0 Zb Zc Zd Zf _ ?Zh ?Zi A3.out).mono ?_); (case Zh => repeat (first | exact (Kd.C_below HR0.out HB.out) | (with_reducible refine Kd.C_alloc ?_ _) | (with_reducible refine Kd.C_drewN ?_ _) | (with_reducible refine Kd.C_drew ?_))); (case Zi => exact HC0.out); rintro e w6 ⟨rfl, hb⟩; refine ⟨_, rfl, ?_⟩; have n0_ := jA (blk_below (g := Ze) (o := .cells #[.string Zb, .string Zc, .string Zd] 28 (0, 0)) (by (with_reducible repeat (first | refine blk_drewN ?_ _ | refine blk_drew ?_ | refine blk_alloc ?_ _)); exact Za.out) hb); have n1_ := jA (below_step (by repeat (first | (with_reducible first | exact HB.out | apply below_alloc | apply pw_below_drewN | apply below_drew1 | refine below_set ?_ Zg.out) | exact HB.out)) hb); clear Za; clear HB; have Za := n0_; have HB := n1_; clear n0_ n1_; (try clear hb); (try clear hb2); (try clear hk); (try clear hi)))
 go_ret
 exact ⟨by first | rfl | (simp [errW_none, errW_some] <;> rfl) | (simp [*, errW_none, errW_some] <;> rfl), by repeat (first | (with_reducible first | exact HB.out | apply below_alloc | apply pw_below_drewN | apply below_drew1 | refine below_set ?_ Zg.out) | exact HB.out)⟩
end Go.Proofs.Ythaiodklfoegiaa.PG
/- mean.allows, in plain words. -/
namespace Go.Proofs.Ythaiodklfoegiaa.MPol
open Go.RowKit YthaiodklfoegiaaW.PrintWords YthaiodklfoegiaaW.PrintLast YthaiodklfoegiaaW.PrintMore MLines MSide
open PG YthaiodklfoegiaaF
theorem beq_str (a b : ByteArray) : (a.toList == b.toList) = decide (a = b) := by
 rw [Bool.eq_iff_iff, decide_eq_true_iff, beq_iff_eq, ByteArray.toList_eq, ByteArray.toList_eq]
 exact ⟨fun h => ByteArray.ext (Array.toList_inj.mp h), fun h => by rw [h]⟩
def namesP (r : S78) (a : ByteArray) : Prop := r.f3 = [] ∨ a ∈ r.f3
def mayP (rules : List S78) (a : ByteArray) : Prop := (∃ r ∈ rules, namesP r a) ∧ ∀ r ∈ rules, namesP r a → r.f0 = false
open Classical in
noncomputable def allowsF (rules : List S78) (exc : List S28) (t : S28) : Bool := decide (mayP rules t.f2 ∧ t ∉ exc)
theorem names_f (r : S78) (a : ByteArray) (hl : r.f3.length ≤ 9223372036854775807) : ∃ b, Ev (fun k => mean_names.f k r.f0 r.f1 r.f2 r.f3 r.f4 r.f5 a) b ∧ (b = true ↔ namesP r a) := by
 unfold mean_names.f namesP
 by_cases h : r.f3 = []
 ·rw [h]
  exact ⟨true, Ev.congr (f := fun _ => some true) (fun k => by simp) (Ev.now _), by simp⟩
 ·have hne : ¬ ((r.f3.length : Int) = 0) := by
   intro e
   exact h (List.eq_nil_of_length_eq_zero (by omega))
  refine ⟨_, Ev.congr (f := fun k => (slices_Contains_string_string.f k r.f3 a).bind fun t => some t) (fun k => by rw [if_neg hne]) (Ev.bind (f := fun _ t => some t) (VPure.contains_f r.f3 a hl) (Ev.now _)), ?_⟩
  rw [decide_eq_true_iff, mem_nm]
  simp [h]
theorem triple_l0 (l : List S28) (t : S28) (hl : l.length ≤ 9223372036854775807) : ∀ (d n : Nat), n + d = l.length → ∃ i : Int, Ev (fun k => api_Triple_84.l0 k l l.length n t.f0 t.f1 t.f2) i ∧ (0 ≤ i ↔ t ∈ l.drop n)
 | 0, n, h => by
  rw [List.drop_eq_nil_of_le (by omega)]
  refine ⟨-1, Ev.step (f := fun _ => some (-1)) (fun k => ?_) (Ev.now _), by simp⟩
  simp only [api_Triple_84.l0]
  rw [if_neg (by omega)]
 | d + 1, n, h => by
  have hlt : n < l.length := by omega
  have hrd : rd_T28 l (n : Int) = l[n] := by simp [rd_T28, hlt]
  have hdr : l.drop n = l[n] :: l.drop (n + 1) := List.drop_eq_getElem_cons hlt
  by_cases he : t = l[n]
  ·refine ⟨n, Ev.step (f := fun _ => some (n : Int)) (fun k => ?_) (Ev.now _), by rw [hdr, he]; exact ⟨fun _ => List.mem_cons_self, fun _ => by omega⟩⟩
   simp only [api_Triple_84.l0]
   rw [if_pos (by omega), if_pos (by omega), if_pos (by omega), hrd, if_pos (by rw [← he]; simp)]
  ·obtain ⟨i, h1, h2⟩ := triple_l0 l t hl d (n + 1) (by omega)
   refine ⟨i, Ev.step (fun k => ?_) h1, by rw [h2, hdr, List.mem_cons]; simp [he]⟩
   have hne : ¬ ((t.f0.toList == l[n].f0.toList && (t.f1.toList == l[n].f1.toList && (t.f2.toList == l[n].f2.toList))) = true) := by
    rw [beq_str, beq_str, beq_str]
    simp only [Bool.and_eq_true, decide_eq_true_eq]
    rintro ⟨a, b, c⟩
    refine he ?_
    cases t; cases hx : l[n]; rw [hx] at a b c; simp only at a b c; subst a; subst b; subst c; rfl
   simp only [api_Triple_84.l0]
   rw [if_pos (by omega), if_pos (by omega), if_pos (by omega), hrd, if_neg hne, Go.Proofs.Ythaiodklfoegiaa.VPure.w64n hlt hl]
theorem excepted_f (l : List S28) (t : S28) (hl : l.length ≤ 9223372036854775807) : ∃ b, Ev (fun k => api_Triple_77.f k l t.f0 t.f1 t.f2) b ∧ (b = true ↔ t ∈ l) := by
 obtain ⟨i, h1, h2⟩ := triple_l0 l t hl l.length 0 (by omega)
 rw [List.drop_zero] at h2
 exact ⟨_, Ev.bind (f := fun _ t => some (decide (t ≥ 0))) h1 (Ev.now _), by rw [decide_eq_true_iff]; exact h2⟩
theorem bool_is {b q : Bool} {p : Prop} [Decidable p] (h : b = true ↔ p) (hq : decide p = q) : b = q := by
 subst hq
 rw [Bool.eq_iff_iff, decide_eq_true_iff]
 exact h
open Classical in
theorem names_go (r : S78) (A3 : Option Addr) (c3 : Nat) (a : ByteArray) (w : World) (q : Bool) (hq : decide (namesP r a) = q) (h : Kd.C Kd.string w A3 r.f3.length r.f3) (hc : r.f3.length ≤ c3) :
  Calls Try.prog 76 #[.agg (ruleV r A3 c3), .string a] w fun e w' => e = .returned (.bool q) ∧ Below w.heap.size w w' := by
 obtain ⟨b, h1, h2⟩ := names_f r a h.2.1
 obtain rfl := bool_is h2 hq
 obtain ⟨k, hk⟩ := h1.rounds
 exact mean_names.calls k r.f0 r.f1 r.f2 A3 c3 r.f3 r.f4 r.f5 a _ w h hc hk
open Classical in
theorem excepted_go (A : Option Addr) (c : Nat) (l : List S28) (t : S28) (w : World) (q : Bool) (hq : decide (t ∈ l) = q) (h : Kd.C k28 w A l.length l) (hc : l.length ≤ c) :
  Calls Try.prog 77 #[.slice A l.length c, .agg #[.string t.f0, .string t.f1, .string t.f2]] w fun e w' => e = .returned (.bool q) ∧ Below w.heap.size w w' := by
 obtain ⟨b, h1, h2⟩ := excepted_f l t h.2.1
 obtain rfl := bool_is h2 hq
 obtain ⟨k, hk⟩ := h1.rounds
 exact api_Triple_77.calls k A c l t.f0 t.f1 t.f2 _ w h hc hk
end Go.Proofs.Ythaiodklfoegiaa.MPol
/- mean.allows. -/
namespace Go.Proofs.Ythaiodklfoegiaa.MPol
open Go.RowKit YthaiodklfoegiaaW.PrintWords YthaiodklfoegiaaW.PrintLast YthaiodklfoegiaaW.PrintMore BMap BRow MLines MPut MClose MConcat MStand MSide Go.Maps
open PG YthaiodklfoegiaaF
def tripV (t : S28) : Array Value := #[.string t.f0, .string t.f1, .string t.f2]
structure Alw (p : Pol) (w W : World) (t : S28) : Prop where
 below : Below w.heap.size w W
 s0 : Stays W w.heap.size p.cells 39
 s1 : Stays W (w.heap.size + 1) (tripV t) 28
theorem Alw.move {p : Pol} {w W W1 : World} {t : S28} (h : Alw p w W t) (hb : Below W.heap.size W W1) : Alw p w W1 t := ⟨below_then h.below h.below.size hb, h.s0.below hb, h.s1.below hb⟩
theorem Alw.start (p : Pol) (w : World) (t : S28) : Alw p w ((w.alloc (.cells p.cells 39)).alloc (.cells (tripV t) 28)) t := by
 have hb1 : Below w.heap.size w (w.alloc (.cells p.cells 39)) := below_alloc (Below.refl _ _) _
 have e1 := heap_alloc_new (w.alloc (.cells p.cells 39)) (.cells (tripV t) 28)
 rw [World.size_alloc] at e1
 exact ⟨below_alloc hb1 _, (Below.heap_alloc _ _ _ (by simp only [World.size_alloc]; omega)).trans (heap_alloc_new w _), e1⟩
open Classical in
theorem allowsF_iff (rules : List S78) (exc : List S28) (t : S28) : allowsF rules exc t = true ↔ mayP rules t.f2 ∧ t ∉ exc := by unfold allowsF; exact decide_eq_true_iff
theorem i28 : (Try.prog.info? 28).map (·.size) = some 3 := by kernel_rfl
open Classical in
theorem allows_calls (p : Pol) (A : Option Addr) (c : Nat) (l1 : List S78) (t : S28) (w : World) (hC : Kd.C k78 w A l1.length l1) (hE : Kd.C k28 w p.A10 p.d.exc.length p.d.exc) (hc : p.d.exc.length ≤ p.c10) (q : Bool) (hq : allowsF l1 p.d.exc t = q) :
  Calls Try.prog 63 #[.agg p.cells, .slice A l1.length c, .agg (tripV t)] w fun e w' => e = .returned (.bool q) ∧ Below w.heap.size w w' := by
 have hmax : l1.length ≤ 9223372036854775807 := hC.2.1
 have HC := jA hC
 have HE := jA hE
 have HCC := jA hc
 have HQ := jA hq
 have hA := Alw.start p w t
 have HA := jA hA
 clear hA hC hE hc hq
 have hpv : ∃ pv, pv = p.cells := ⟨_, rfl⟩
 unfold Pol.cells tripV
 unfold Pol.cells tripV at HA
 clear hpv
 go_enter Try.func63, Try.ntmps63
 go_wp2
 go_loopw [7, 12] (fun u7 u12 wr => ∃ (k : Nat) (y : Bool), k ≤ l1.length ∧ u12 = .int .i64 k ∧ u7 = .bool y ∧ Aside0 (Alw p w wr t) ∧ Aside0 (y = true ↔ ∃ r ∈ l1.take k, namesP r t.f2) ∧ Aside0 (∀ r ∈ l1.take k, namesP r t.f2 → r.f0 = false)) (fun _ u12 _ => l1.length - (intOf u12).toNat)
 case atStart => exact ⟨0, false, Nat.zero_le _, rfl, rfl, HA, ⟨by simp⟩, ⟨by simp⟩⟩
 case round =>
  obtain ⟨k, y, hk, rfl, rfl, HR, HY, HN⟩ := hrel
  by_cases hlt : k < l1.length
  ·obtain ⟨ad, cs, e0, hcl, hK, hcell⟩ := Kd.C_get HC.out z78 (k : Int) (by omega) (by omega)
   subst e0
   have hget : l1.getD (k : Int).toNat z78 = l1[k] := by simp [hlt]
   have hK : k78.K w l1[k] cs := by rw [← hget]; exact hK
   have htk : l1.take (k + 1) = l1.take k ++ [l1[k]] := List.take_succ_eq_append_getElem hlt
   have hin : l1[k] ∈ l1 := List.getElem_mem hlt
   obtain ⟨x, hxx⟩ : ∃ x, x = l1[k] := ⟨_, rfl⟩
   rw [← hxx] at hK htk hin
   obtain ⟨A3', c3', rfl, l3, g3⟩ := k78_open hK
   have hcw : ∀ (j : Nat) (v : Value), ([.bool x.f0, .string x.f1, .string x.f2, .slice A3' x.f3.length c3', .int .i8 x.f4, .float .f64 x.f5] : List Value)[j]? = some v → wr.cell? ((ad.add (k * 6)).add j) = some v := by
    intro j v hj
    have h0 : w.cell? (ad.add (k * 6 + j)) = some v := hcell j v hj
    rw [add_add]
    exact pw_cell_below HR.out.below h0
   have HCW := jA hcw
   have HTK := jA htk
   have HIN := jA hin
   have HL3 := jA l3
   have HG3 := jA g3
   have c0' : (k : Int) < l1.length := by omega
   clear hcell hK hget htk hin hxx hcw hcl l3 g3
   go_upto_region 5 with (first | ((with_reducible refine gate_dst (N := 15) rfl ?_); refine wpList_load_at rfl 78 (.tmp 14) rfl (ad.add (k * 6)) ?hx [.bool x.f0, .string x.f1, .string x.f2, .slice A3' x.f3.length c3', .int .i8 x.f4, .float .f64 x.f5] HCW.out _ Try.underlying78 rfl i78 ?_; (case hx => rfl); refine wpList_alloc_store rfl rfl 78 9 (.tmp 15) rfl rfl rfl #[(.bool false), (.string ⟨#[]⟩), (.string ⟨#[]⟩), (.slice none 0 0), (.int .i8 0), (.float .f64 0)] (ruleV x A3' c3') _ (z78v _) rfl i78 rfl (by simp [ruleV, Value.oneCell']) ?hy ?hp ?_; (case hy => rfl); (case hp => rfl)))
   simp only [Act.put, List.setIfInBounds_toArray, List.set_cons_succ, List.set_cons_zero]
   have hS2 := heap_alloc_new wr (.cells (ruleV x A3' c3') 78)
   have hA2 := HR.out.move (below_alloc (Below.refl _ wr) (.cells (ruleV x A3' c3') 78))
   obtain ⟨W2, hW2⟩ : ∃ W2, W2 = wr.alloc (.cells (ruleV x A3' c3') 78) := ⟨_, rfl⟩
   obtain ⟨g9, hg9⟩ : ∃ g9, g9 = wr.heap.size := ⟨_, rfl⟩
   rw [← hg9] at hS2 ⊢
   rw [← hW2] at hS2 hA2 ⊢
   have hS2 : Stays W2 g9 (ruleV x A3' c3') 78 := hS2
   have e2 : W2.cell? ⟨w.heap.size + 1, 2, none⟩ = some (.string t.f2) := hA2.s1.cell 2
   have HA2 := jA hA2
   have HS2 := jA hS2
   clear hS2 hA2 hW2 hg9
   obtain ⟨nb, hnb⟩ : ∃ nb, decide (namesP x t.f2) = nb := ⟨_, rfl⟩
   have HNB := jA hnb
   clear hnb
   obtain ⟨db, hdb⟩ : ∃ db, x.f0 = db := ⟨_, rfl⟩
   have HDB := jA hdb
   clear hdb
   have WALK : True := trivial
   cases nb with
   | false =>
    go_wp2_with (first | ((with_reducible refine gate_dst (N := 16) rfl ?_); refine wpList_load_blk rfl 78 (.tmp 9) rfl g9 ?hx (ruleV x A3' c3') 78 HS2.out _ Try.underlying78 rfl i78 ?_; (case hx => rfl)) | (go_at_call 76; (with_reducible refine (names_go x A3' c3' t.f2 _ _ HNB.out (Kd.C_below HG3.out HA2.out.below) HL3.out).mono ?_); rintro e w3 ⟨rfl, hb3⟩; have HA3 := jA (HA2.out.move hb3); clear hb3))
    go_roundw
    case rel => exact ⟨k + 1, y, by omega, by go_num, rfl, HA3, ⟨by rw [HTK.out, HY.out]; simp [of_decide_eq_false HNB.out]⟩, ⟨fun r hr hn => by rw [HTK.out, List.mem_append, List.mem_singleton] at hr; rcases hr with hr | rfl; exact HN.out r hr hn; exact absurd hn (of_decide_eq_false HNB.out)⟩⟩
    case measure => simp [intOf]; omega
   | true =>
    cases db with
    | true =>
     go_wp2_with (first | ((with_reducible refine gate_dst (N := 16) rfl ?_); refine wpList_load_blk rfl 78 (.tmp 9) rfl g9 ?hx (ruleV x A3' c3') 78 HS2.out _ Try.underlying78 rfl i78 ?_; (case hx => rfl)) | (go_at_call 76; (with_reducible refine (names_go x A3' c3' t.f2 _ _ HNB.out (Kd.C_below HG3.out HA2.out.below) HL3.out).mono ?_); rintro e w3 ⟨rfl, hb3⟩; have x0 : w3.cell? ⟨g9, 0, none⟩ = some (.bool true) := ((HS2.out.below hb3).cell 0).trans (by simp [ruleV, HDB.out]); have HA3 := jA (HA2.out.move hb3); clear hb3))
     go_ret
     refine ⟨?_, HA3.out.below⟩
     have hqf : q = false := by
      rw [← HQ.out]
      refine decide_eq_false ?_
      rintro ⟨⟨-, h2⟩, -⟩
      have := h2 x HIN.out (of_decide_eq_true HNB.out)
      rw [HDB.out] at this
      cases this
     rw [hqf]
     rfl
    | false =>
     go_wp2_with (first | ((with_reducible refine gate_dst (N := 16) rfl ?_); refine wpList_load_blk rfl 78 (.tmp 9) rfl g9 ?hx (ruleV x A3' c3') 78 HS2.out _ Try.underlying78 rfl i78 ?_; (case hx => rfl)) | (go_at_call 76; (with_reducible refine (names_go x A3' c3' t.f2 _ _ HNB.out (Kd.C_below HG3.out HA2.out.below) HL3.out).mono ?_); rintro e w3 ⟨rfl, hb3⟩; have x0 : w3.cell? ⟨g9, 0, none⟩ = some (.bool false) := ((HS2.out.below hb3).cell 0).trans (by simp [ruleV, HDB.out]); have HA3 := jA (HA2.out.move hb3); clear hb3))
     go_roundw
     case rel => exact ⟨k + 1, true, by omega, by go_num, rfl, HA3, ⟨by rw [HTK.out]; exact ⟨fun _ => ⟨x, by simp, of_decide_eq_true HNB.out⟩, fun _ => rfl⟩⟩, ⟨fun r hr hn => by rw [HTK.out, List.mem_append, List.mem_singleton] at hr; rcases hr with hr | rfl; exact HN.out r hr hn; exact HDB.out⟩⟩
     case measure => simp [intOf]; omega
  ·have hkk : k = l1.length := by omega
   subst hkk
   have hY := HY.out
   have hN := HN.out
   rw [List.take_length] at hY hN
   have HY2 := jA hY
   have HN2 := jA hN
   clear hY hN
   have e10 := HR.out.s0.cell 10
   simp only [Pol.cells, Jt, Ju, Jv] at e10
   have f0 : wr.cell? ⟨w.heap.size + 1, 0, none⟩ = some (.string t.f0) := HR.out.s1.cell 0
   have f1 : wr.cell? ⟨w.heap.size + 1, 1, none⟩ = some (.string t.f1) := HR.out.s1.cell 1
   have f2 : wr.cell? ⟨w.heap.size + 1, 2, none⟩ = some (.string t.f2) := HR.out.s1.cell 2
   obtain ⟨xb, hxb⟩ : ∃ xb, decide (t ∈ p.d.exc) = xb := ⟨_, rfl⟩
   have HXB := jA hxb
   clear hxb
   have hqv : q = (y && !xb) := by
    rw [← HQ.out, Bool.eq_iff_iff, Bool.and_eq_true, Bool.not_eq_true', HY2.out, ← HXB.out, decide_eq_false_iff_not]
    rw [allowsF_iff]
    exact ⟨fun h => ⟨h.1.1, h.2⟩, fun h => ⟨⟨h.1, HN2.out⟩, h.2⟩⟩
   have HQV := jA hqv
   clear hqv
   cases y with
   | false =>
    go_wp2
    go_ret
    refine ⟨?_, HR.out.below⟩
    rw [HQV.out]
    rfl
   | true =>
    go_wp2_with (first | (go_at_call 77; (with_reducible refine (excepted_go p.A10 p.c10 p.d.exc t _ _ HXB.out (Kd.C_below HE.out HR.out.below) HCC.out).mono ?_); rintro e w3 ⟨rfl, hb3⟩; have HA3 := jA (HR.out.move hb3); clear hb3))
    go_ret
    refine ⟨?_, HA3.out.below⟩
    rw [HQV.out]
    rfl
end Go.Proofs.Ythaiodklfoegiaa.MPol
