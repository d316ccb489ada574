/- Of this session's texts, what the row uses: PGx14, PGx15, RKinds, BMap, BRow, GDiffer, MLines, MPut, RMem, RCells, REpoch, RMach, RSteps, RSeek, RLook, RNum, RNew, RCache, MClose, MConcat. -/
import Derived.Test.YtdgkppldopiaoaaGreatZ1
import Derived.Maps.Keyed
import Derived.Maps.Own
import Derived.OwnWalk
import Derived.Below
import Derived.Deep.Draws
import Derived.WalkKit
import Derived.Laws.Rows
import Derived.Laws.CopyRow
import Derived.Test.YtdgkppldopiaoaaGreatProg
import Derived.Deep.LoopGhost
import Derived.RegionTactic
import Derived.BigRegion
import Derived.Deep.RegionWith
import Derived.DeepKeys5
import Derived.ChangeSlices
import Derived.Carry
import Derived.Outline
import Derived.Deep.DeepMust
import Derived.StringKeys
import Derived.WideKeyElems
import Derived.OneCell
import Derived.Laws.EntriesVeiled
import Derived.Deep.DeepAppendRoom
set_option linter.unusedSimpArgs false
set_option linter.unusedVariables false
set_option maxHeartbeats 8000000
set_option maxRecDepth 100000
namespace Go.Proofs.YtdgkppldopiaoaaGreat.PG
open YtdgkppldopiaoaaGreatF
attribute [local go_sem high] run_feq run_fne run_flt_lt run_flt_le run_flt_gt run_flt_ge
open Go.RowKit YtdgkppldopiaoaaGreatW.PrintWords YtdgkppldopiaoaaGreatW.PrintLast YtdgkppldopiaoaaGreatW.PrintMore
attribute [local go_sem] max2_int min2_int max_two min_two max_three min_three max_four min_four
attribute [local go_sem high] eqA89
def api_Triple_132.l0 : Nat → List (S89) → Int → Int → ByteArray → ByteArray → ByteArray → Option (Int)
 | 0, _, _, _, _, _, _ => none
 | k + 1, x0, x7, x8, Zm, Zn, Zo => if x8 < x7 then (if 0 ≤ x8 then (if x8 < (x0.length : Int) then (if (Zm.toList == (((rd_T89 x0 x8).f0).toList) && (Zn.toList == (((rd_T89 x0 x8).f1).toList) && (Zo.toList == (((rd_T89 x0 x8).f2).toList)))) = true then (some x8) else (api_Triple_132.l0 k x0 x7 (wrap64 (x8 + 1)) Zm Zn Zo)) else (none)) else (none)) else (some (-1))
def api_Triple_132.f (k : Nat) (l0 : List (S89)) (Zd : ByteArray) (Ze : ByteArray) (Zf : ByteArray) : Option (Int) := api_Triple_132.l0 k l0 (l0.length : Int) 0 Zd Ze Zf
theorem api_Triple_132.calls (k : Nat) (A0 : Option Addr) (c0 : Nat) (l0 : List (S89)) (Zd : ByteArray) (Ze : ByteArray) (Zf : ByteArray) (r : Int) (w : World) (hr0 : Kd.C k89 w A0 l0.length l0) (hc0 : l0.length ≤ c0) (h : api_Triple_132.f k l0 Zd Ze Zf = some r) :
  Calls Tryz.prog 132 #[.slice A0 l0.length c0, .agg #[.string Zd, .string Ze, .string Zf]] w fun e w' => e = .returned (.int .i64 r) ∧ Below w.heap.size w w' := by
 have ZE := Tryz.underlying89
 have HR0 := jA hr0
 have HC0 := jA hc0
 clear hr0 hc0
 have HB := jA (Below.refl w.heap.size w)
 have H : (api_Triple_132.l0 k l0 (l0.length : Int) 0 Zd Ze Zf) = some r := h
 clear h
 have H' := jA H
 clear H
 go_enter Tryz.func132, Tryz.ntmps132
 go_wp2_with (first | ((with_reducible refine gate_dst (N := 3) rfl ?_); refine box_event ?hg (N := 3) ?hd (cs := #[.string Zd, .string Ze, .string Zf]) (t := 89) ?hr ?_; (case hd => rfl); (case hg => rfl); (case hr => first | (go_simp; done) | (go_simp; rfl)); intro Zc hg w3 hbox hb; have n0_ := jA (below_step (by repeat (first | (with_reducible first | exact HB.out | apply below_alloc | apply pw_below_drewN | apply below_drew1) | exact HB.out)) hb); have n1_ := jA (hbox); have n2_ := jA ((by rw [hg]; exact (below_size (by repeat (first | (with_reducible first | exact HB.out | apply below_alloc | apply pw_below_drewN | apply below_drew1) | exact HB.out))) : w.heap.size ≤ Zc)); have n3_ := jA ((by rw [hg]; exact (below_size (by repeat (first | (with_reducible first | exact HB.out | apply below_alloc | apply pw_below_drewN | apply below_drew1) | exact HB.out))) : w.heap.size ≤ Zc)); clear HB; have HB := n0_; have Zb := n1_; have Zp := n2_; have Zj := n3_; clear n0_ n1_ n2_ n3_; clear hb hbox hg))
 repeat (go_quiet (first | ((with_reducible refine gate_dst (N := 3) rfl ?_); refine box_event ?hg (N := 3) ?hd (cs := #[.string Zd, .string Ze, .string Zf]) (t := 89) ?hr ?_; (case hd => rfl); (case hg => rfl); (case hr => first | (go_simp; done) | (go_simp; rfl)); intro Zc hg w3 hbox hb; have n0_ := jA (below_step (by repeat (first | (with_reducible first | exact HB.out | apply below_alloc | apply pw_below_drewN | apply below_drew1) | exact HB.out)) hb); have n1_ := jA (hbox); have n2_ := jA ((by rw [hg]; exact (below_size (by repeat (first | (with_reducible first | exact HB.out | apply below_alloc | apply pw_below_drewN | apply below_drew1) | exact HB.out))) : w.heap.size ≤ Zc)); have n3_ := jA ((by rw [hg]; exact (below_size (by repeat (first | (with_reducible first | exact HB.out | apply below_alloc | apply pw_below_drewN | apply below_drew1) | exact HB.out))) : w.heap.size ≤ Zc)); clear HB; have HB := n0_; have Zb := n1_; have Zp := n2_; have Zj := n3_; clear n0_ n1_ n2_ n3_; clear hb hbox hg)); try go_wp2_with (first | ((with_reducible refine gate_dst (N := 3) rfl ?_); refine box_event ?hg (N := 3) ?hd (cs := #[.string Zd, .string Ze, .string Zf]) (t := 89) ?hr ?_; (case hd => rfl); (case hg => rfl); (case hr => first | (go_simp; done) | (go_simp; rfl)); intro Zc hg w3 hbox hb; have n0_ := jA (below_step (by repeat (first | (with_reducible first | exact HB.out | apply below_alloc | apply pw_below_drewN | apply below_drew1) | exact HB.out)) hb); have n1_ := jA (hbox); have n2_ := jA ((by rw [hg]; exact (below_size (by repeat (first | (with_reducible first | exact HB.out | apply below_alloc | apply pw_below_drewN | apply below_drew1) | exact HB.out))) : w.heap.size ≤ Zc)); have n3_ := jA ((by rw [hg]; exact (below_size (by repeat (first | (with_reducible first | exact HB.out | apply below_alloc | apply pw_below_drewN | apply below_drew1) | exact HB.out))) : w.heap.size ≤ Zc)); clear HB; have HB := n0_; have Zb := n1_; have Zp := n2_; have Zj := n3_; clear n0_ n1_ n2_ n3_; clear hb hbox hg)))
 go_loopg [8] k (fun kq v8 w' => ∃ (Za : Int), v8 = .int .i64 Za ∧ Aside0 (api_Triple_132.l0 kq l0 (l0.length : Int) Za Zd Ze Zf = some r) ∧ Aside0 (kq ≤ k) ∧ Aside0 (w'.heap[Zc]? = some (.cells #[.string Zd, .string Ze, .string Zf] 89 (0, 0))) ∧ Aside0 (Below w.heap.size w w'))
 case atStart => exact ⟨(0), (by first | rfl | (simp; done) | (simp [*]; done)), H', ⟨Nat.le_refl _⟩, ⟨by (with_reducible repeat (first | refine blk_drewN ?_ _ | refine blk_drew ?_ | refine blk_alloc ?_ _)); exact Zb.out⟩, ⟨by repeat (first | (with_reducible first | exact HB.out | apply below_alloc | apply pw_below_drewN | apply below_drew1 | refine below_set ?_ Zj.out) | exact HB.out)⟩⟩
 case round =>
  clear H'
  try clear c1
  try clear p2
  obtain ⟨Za, rfl, HA, HK1, Zb, HB⟩ := hrel
  cases gk with
  | zero => exact absurd HA.out (by simp [api_Triple_132.l0])
  | succ k1 =>
   have H := HA.out
   clear HA
   simp only [api_Triple_132.l0] at H
   by_cases c4 : Za < (l0.length : Int)
   ·rw [if_pos c4] at H
    have c4b0 : decide (Za < (l0.length : Int)) = true := decide_eq_true c4
    clear c4
    by_cases c5 : 0 ≤ Za
    ·rw [if_pos c5] at H
     have c5b0 : decide (0 ≤ Za) = true := decide_eq_true c5
     clear c5
     by_cases c6 : Za < (l0.length : Int)
     ·rw [if_pos c6] at H
      have c6b0 : decide (Za < (l0.length : Int)) = true := decide_eq_true c6
      clear c6
      by_cases c7 : (Zd.toList == (((rd_T89 l0 Za).f0).toList) && (Ze.toList == (((rd_T89 l0 Za).f1).toList) && (Zf.toList == (((rd_T89 l0 Za).f2).toList)))) = true
      ·rw [if_pos c7] at H
       have c7b0 : (Zd.toList == (((rd_T89 l0 Za).f0).toList) && (Ze.toList == (((rd_T89 l0 Za).f1).toList) && (Zf.toList == (((rd_T89 l0 Za).f2).toList)))) = true := c7
       (try (have c7b1 : decide (Zd.toList = (((rd_T89 l0 Za).f0).toList) && (Ze.toList == (((rd_T89 l0 Za).f1).toList) && (Zf.toList == (((rd_T89 l0 Za).f2).toList)))) = true := by simpa using c7))
       (try (have c7b2 : (Zd.toList == (((rd_T89 l0 Za).f0).toList) && (Ze.toList == (((rd_T89 l0 Za).f1).toList) && (Zf.toList == (((rd_T89 l0 Za).f2).toList)))) = true := by simpa using c7))
       clear c7
       obtain rfl := Option.some.inj H
       have Zs : wr.cell? ⟨Zc, 0, none⟩ = some (.string Zd) := (blk_cell Zb.out 0).trans rfl
       have Zt : wr.cell? ⟨Zc, 1, none⟩ = some (.string Ze) := (blk_cell Zb.out 1).trans rfl
       have Zu : wr.cell? ⟨Zc, 2, none⟩ = some (.string Zf) := (blk_cell Zb.out 2).trans rfl
       have Zv := blk_frozen Zb.out 0
       have Zw := blk_frozen Zb.out 1
       have Zx := blk_frozen Zb.out 2
       have Zk : 0 ≤ (Za : Int) := of_decide_eq_true (by first | (with_reducible assumption) | assumption)
       have Zl : Za < (l0.length : Int) := of_decide_eq_true (by first | (with_reducible assumption) | assumption)
       obtain ⟨Zr, Zq, Zg, Zh, Zi⟩ := at_T89 HR0.out Za Zk Zl
       cases Zq
       replace Zg := (HB.out.cell (World.block_lt_of_cell? w _ Zg)).trans Zg
       replace Zh := (HB.out.cell (World.block_lt_of_cell? w _ Zh)).trans Zh
       replace Zi := (HB.out.cell (World.block_lt_of_cell? w _ Zi)).trans Zi
       replace Zk := eq_true Zk
       replace Zl := eq_true Zl
       go_wp2
       repeat (go_quiet (fail); try go_wp2)
       go_ret
       exact ⟨by first | rfl | (simp [errW_none, errW_some] <;> rfl) | (simp [*, errW_none, errW_some] <;> rfl), by repeat (first | (with_reducible first | exact HB.out | apply below_alloc | apply pw_below_drewN | apply below_drew1 | refine below_set ?_ Zj.out) | exact HB.out)⟩
      ·rw [if_neg c7] at H
       have c7b0 : (Zd.toList == (((rd_T89 l0 Za).f0).toList) && (Ze.toList == (((rd_T89 l0 Za).f1).toList) && (Zf.toList == (((rd_T89 l0 Za).f2).toList)))) = false := by simpa using c7
       (try (have c7b1 : decide (Zd.toList = (((rd_T89 l0 Za).f0).toList) && (Ze.toList == (((rd_T89 l0 Za).f1).toList) && (Zf.toList == (((rd_T89 l0 Za).f2).toList)))) = false := by simpa using c7))
       (try (have c7b2 : (Zd.toList == (((rd_T89 l0 Za).f0).toList) && (Ze.toList == (((rd_T89 l0 Za).f1).toList) && (Zf.toList == (((rd_T89 l0 Za).f2).toList)))) = false := by simpa using c7))
       (try (have c7b3 : ¬ (Zd.toList = (((rd_T89 l0 Za).f0).toList) && (Ze.toList == (((rd_T89 l0 Za).f1).toList) && (Zf.toList == (((rd_T89 l0 Za).f2).toList)))) := by simpa using c7))
       clear c7
       have H' := jA H
       clear H
       have Zy : wr.cell? ⟨Zc, 0, none⟩ = some (.string Zd) := (blk_cell Zb.out 0).trans rfl
       have Zz : wr.cell? ⟨Zc, 1, none⟩ = some (.string Ze) := (blk_cell Zb.out 1).trans rfl
       have ZA : wr.cell? ⟨Zc, 2, none⟩ = some (.string Zf) := (blk_cell Zb.out 2).trans rfl
       have ZB := blk_frozen Zb.out 0
       have ZC := blk_frozen Zb.out 1
       have ZD := blk_frozen Zb.out 2
       have Zk : 0 ≤ (Za : Int) := of_decide_eq_true (by first | (with_reducible assumption) | assumption)
       have Zl : Za < (l0.length : Int) := of_decide_eq_true (by first | (with_reducible assumption) | assumption)
       obtain ⟨Zr, Zq, Zg, Zh, Zi⟩ := at_T89 HR0.out Za Zk Zl
       cases Zq
       replace Zg := (HB.out.cell (World.block_lt_of_cell? w _ Zg)).trans Zg
       replace Zh := (HB.out.cell (World.block_lt_of_cell? w _ Zh)).trans Zh
       replace Zi := (HB.out.cell (World.block_lt_of_cell? w _ Zi)).trans Zi
       replace Zk := eq_true Zk
       replace Zl := eq_true Zl
       go_wp2
       repeat (go_quiet (fail); try go_wp2)
       go_roundg k1
       case measure => have := HK1.out; omega
       case rel => exact ⟨(wrap64 (Za + 1)), (by first | rfl | (simp; done) | (simp [*]; done)), H', ⟨by have := HK1.out; omega⟩, ⟨by (with_reducible repeat (first | refine blk_drewN ?_ _ | refine blk_drew ?_ | refine blk_alloc ?_ _)); exact Zb.out⟩, ⟨by repeat (first | (with_reducible first | exact HB.out | apply below_alloc | apply pw_below_drewN | apply below_drew1 | refine below_set ?_ Zj.out) | exact HB.out)⟩⟩
     ·rw [if_neg c6] at H
      exact absurd H (by simp)
    ·rw [if_neg c5] at H
     exact absurd H (by simp)
   ·rw [if_neg c4] at H
    have c4b0 : decide (Za < (l0.length : Int)) = false := decide_eq_false c4
    clear c4
    obtain rfl := Option.some.inj H
    go_wp2
    repeat (go_quiet (fail); try go_wp2)
    go_ret
    exact ⟨by first | rfl | (simp [errW_none, errW_some] <;> rfl) | (simp [*, errW_none, errW_some] <;> rfl), by repeat (first | (with_reducible first | exact HB.out | apply below_alloc | apply pw_below_drewN | apply below_drew1 | refine below_set ?_ Zj.out) | exact HB.out)⟩
end Go.Proofs.YtdgkppldopiaoaaGreat.PG
namespace Go.Proofs.YtdgkppldopiaoaaGreat.PG
open YtdgkppldopiaoaaGreatF
attribute [local go_sem high] run_feq run_fne run_flt_lt run_flt_le run_flt_gt run_flt_ge
open Go.RowKit YtdgkppldopiaoaaGreatW.PrintWords YtdgkppldopiaoaaGreatW.PrintLast YtdgkppldopiaoaaGreatW.PrintMore
attribute [local go_sem] max2_int min2_int max_two min_two max_three min_three max_four min_four
def api_Triple_124.f (k : Nat) (l0 : List (S89)) (Zb : ByteArray) (Zc : ByteArray) (Zd : ByteArray) : Option (Bool) := (api_Triple_132.f k l0 Zb Zc Zd).bind fun Zf => (some (decide (Zf ≥ 0)))
theorem api_Triple_124.calls (k : Nat) (A0 : Option Addr) (c0 : Nat) (l0 : List (S89)) (Zb : ByteArray) (Zc : ByteArray) (Zd : ByteArray) (r : Bool) (w : World) (hr0 : Kd.C k89 w A0 l0.length l0) (hc0 : l0.length ≤ c0) (h : api_Triple_124.f k l0 Zb Zc Zd = some r) :
  Calls Tryz.prog 124 #[.slice A0 l0.length c0, .agg #[.string Zb, .string Zc, .string Zd]] w fun e w' => e = .returned (.bool r) ∧ Below w.heap.size w w' := by
 have Zq := Tryz.underlying89
 have HR0 := jA hr0
 have HC0 := jA hc0
 clear hr0 hc0
 have HB := jA (Below.refl w.heap.size w)
 have H : ((api_Triple_132.f k l0 Zb Zc Zd).bind fun Zf => (some (decide (Zf ≥ 0)))) = some r := h
 clear h
 replace H := Option.bind_eq_some_iff.mp H
 obtain ⟨Zf, A30, H⟩ := H
 replace H : (some (decide (Zf ≥ 0))) = some r := H
 have A3 := jA A30
 clear A30
 obtain rfl := Option.some.inj H
 go_enter Tryz.func124, Tryz.ntmps124
 go_wp2_with (first | ((with_reducible refine gate_dst (N := 3) rfl ?_); refine box_event ?hg (N := 3) ?hd (cs := #[.string Zb, .string Zc, .string Zd]) (t := 89) ?hr ?_; (case hd => rfl); (case hg => rfl); (case hr => first | (go_simp; done) | (go_simp; rfl)); intro Ze hg w4 hbox hb; have n0_ := jA (below_step (by repeat (first | (with_reducible first | exact HB.out | apply below_alloc | apply pw_below_drewN | apply below_drew1) | exact HB.out)) hb); have n1_ := jA (hbox); have n2_ := jA ((by rw [hg]; exact (below_size (by repeat (first | (with_reducible first | exact HB.out | apply below_alloc | apply pw_below_drewN | apply below_drew1) | exact HB.out))) : w.heap.size ≤ Ze)); have n3_ := jA ((by rw [hg]; exact (below_size (by repeat (first | (with_reducible first | exact HB.out | apply below_alloc | apply pw_below_drewN | apply below_drew1) | exact HB.out))) : w.heap.size ≤ Ze)); clear HB; have HB := n0_; have Za := n1_; have Zp := n2_; have Zg := n3_; clear n0_ n1_ n2_ n3_; clear hb hbox hg; have Zj : w4.cell? ⟨Ze, 0, none⟩ = some (.string Zb) := (blk_cell Za.out 0).trans rfl; have Zk : w4.cell? ⟨Ze, 1, none⟩ = some (.string Zc) := (blk_cell Za.out 1).trans rfl; have Zl : w4.cell? ⟨Ze, 2, none⟩ = some (.string Zd) := (blk_cell Za.out 2).trans rfl; have Zm := blk_frozen Za.out 0; have Zn := blk_frozen Za.out 1; have Zo := blk_frozen Za.out 2) | ((with_reducible refine gate_callee (f := 132) rfl ?_); refine goesL_ (some 7) rfl rfl Tryz.func132 (by kernel_rfl) rfl #[.slice A0 l0.length c0, .agg #[.string Zb, .string Zc, .string Zd]] rfl (by (try simp only [List.map_toArray, List.map_cons, List.map_nil]); first | done | rfl | (simp only [List.length_drop, List.length_take]; rfl)) ?_; (with_reducible refine (api_Triple_132.calls k _ _ l0 Zb Zc Zd Zf _ ?Zh ?Zi A3.out).mono ?_); (case Zh => repeat (first | exact (Kd.C_below HR0.out HB.out) | (with_reducible refine Kd.C_alloc ?_ _) | (with_reducible refine Kd.C_drewN ?_ _) | (with_reducible refine Kd.C_drew ?_))); (case Zi => exact HC0.out); rintro e w6 ⟨rfl, hb⟩; refine ⟨_, rfl, ?_⟩; have n0_ := jA (blk_below (g := Ze) (o := .cells #[.string Zb, .string Zc, .string Zd] 89 (0, 0)) (by (with_reducible repeat (first | refine blk_drewN ?_ _ | refine blk_drew ?_ | refine blk_alloc ?_ _)); exact Za.out) hb); have n1_ := jA (below_step (by repeat (first | (with_reducible first | exact HB.out | apply below_alloc | apply pw_below_drewN | apply below_drew1 | refine below_set ?_ Zg.out) | exact HB.out)) hb); clear Za; clear HB; have Za := n0_; have HB := n1_; clear n0_ n1_; (try clear hb); (try clear hb2); (try clear hk); (try clear hi)))
 go_ret
 exact ⟨by first | rfl | (simp [errW_none, errW_some] <;> rfl) | (simp [*, errW_none, errW_some] <;> rfl), by repeat (first | (with_reducible first | exact HB.out | apply below_alloc | apply pw_below_drewN | apply below_drew1 | refine below_set ?_ Zg.out) | exact HB.out)⟩
end Go.Proofs.YtdgkppldopiaoaaGreat.PG
/- Kinds of this program that the print did not lay: api.Pair, api.Subject, api.Rule. -/
namespace Go.Proofs.YtdgkppldopiaoaaGreat.PG
open YtdgkppldopiaoaaGreatF
attribute [local go_sem high] run_feq run_fne run_flt_lt run_flt_le run_flt_gt run_flt_ge
open Go.RowKit YtdgkppldopiaoaaGreatW.PrintWords YtdgkppldopiaoaaGreatW.PrintLast YtdgkppldopiaoaaGreatW.PrintMore
attribute [local go_sem] max2_int min2_int max_two min_two max_three min_three max_four min_four
theorem info3 : (Tryz.prog.info? 3).map (fun i => (i.zero, i.size, i.bytes)) = some (some (.int .i64 0), 1, 8) := by kernel_rfl
theorem info175 : (Tryz.prog.info? 175).map (fun i => (i.zero, i.size, i.bytes)) = some (some (.int .u16 0), 1, 2) := by kernel_rfl
theorem info148 : (Tryz.prog.info? 148).map (fun i => (i.zero, i.size, i.bytes)) = some (some (.agg #[(.bool false), (.string ⟨#[]⟩), (.string ⟨#[]⟩), (.slice none 0 0), (.int .i8 0), (.float .f64 0)]), 6, 80) := by kernel_rfl
theorem info242 : (Tryz.prog.info? 242).map (fun i => (i.zero, i.size, i.bytes)) = some (some (.agg #[(.string ⟨#[]⟩), (.string ⟨#[]⟩)]), 2, 32) := by kernel_rfl
structure S242 where
 f0 : ByteArray
 f1 : ByteArray
def z242 : S242 := ⟨(⟨#[]⟩ : ByteArray), (⟨#[]⟩ : ByteArray)⟩
def k242 : Kd S242 := Kd.iso (Kd.pair Kd.string Kd.string) (fun x : S242 => (x.f0, x.f1))
theorem k242_open {w : World} {x : S242} {cs : List Value} (h : k242.K w x cs) : cs = [.string x.f0, .string x.f1] := by
 obtain ⟨_, _, rfl, rfl, rfl⟩ := h
 exact rfl
def rd_T242 (xs : List S242) (i : Int) : S242 := xs.getD i.toNat z242
theorem at_T242 {w : World} {A : Option Addr} {n : Nat} {xs : List S242} (h : Kd.C k242 w A n xs) (i : Int) (h0 : 0 ≤ i) (h1 : i < n) : ∃ ad , A = some ad ∧ w.cell? (ad.add (i.toNat * 2)) = some (.string (rd_T242 xs i).f0) ∧ w.cell? ⟨(ad.add (i.toNat * 2)).block, (ad.add (i.toNat * 2)).off + 1, none⟩ = some (.string (rd_T242 xs i).f1) := by
 obtain ⟨ad, c, e, _, hK, hc0⟩ := Kd.C_get h z242 i h0 h1
 have hc : ∀ j u, c[j]? = some u → w.cell? (ad.add (i.toNat * 2 + j)) = some u := hc0
 obtain rfl := k242_open hK
 exact ⟨ad, e, hc 0 _ rfl, by rw [← add_field _ _ 1 (by omega)]; exact hc 1 _ rfl⟩
structure S146 where
 f0 : ByteArray
 f1 : Nat
def z146 : S146 := ⟨(⟨#[]⟩ : ByteArray), (0 : Nat)⟩
def k146 : Kd S146 := Kd.iso (Kd.pair Kd.string kflt) (fun x : S146 => (x.f0, x.f1))
theorem k146_open {w : World} {x : S146} {cs : List Value} (h : k146.K w x cs) : cs = [.string x.f0, .float .f64 x.f1] := by
 obtain ⟨_, _, rfl, rfl, rfl⟩ := h
 exact rfl
theorem k146_mk (w : World) (x : S146)  : k146.K w x [.string x.f0, .float .f64 x.f1] := ⟨[.string x.f0], [.float .f64 x.f1], rfl, rfl, rfl⟩
def rd_T146 (xs : List S146) (i : Int) : S146 := xs.getD i.toNat z146
theorem at_T146 {w : World} {A : Option Addr} {n : Nat} {xs : List S146} (h : Kd.C k146 w A n xs) (i : Int) (h0 : 0 ≤ i) (h1 : i < n) : ∃ ad , A = some ad ∧ w.cell? (ad.add (i.toNat * 2)) = some (.string (rd_T146 xs i).f0) ∧ w.cell? ⟨(ad.add (i.toNat * 2)).block, (ad.add (i.toNat * 2)).off + 1, none⟩ = some (.float .f64 (rd_T146 xs i).f1) := by
 obtain ⟨ad, c, e, _, hK, hc0⟩ := Kd.C_get h z146 i h0 h1
 have hc : ∀ j u, c[j]? = some u → w.cell? (ad.add (i.toNat * 2 + j)) = some u := hc0
 obtain rfl := k146_open hK
 exact ⟨ad, e, hc 0 _ rfl, by rw [← add_field _ _ 1 (by omega)]; exact hc 1 _ rfl⟩
structure S148 where
 f0 : Bool
 f1 : ByteArray
 f2 : ByteArray
 f3 : (List ByteArray)
 f4 : Int
 f5 : Nat
def z148 : S148 := ⟨false, (⟨#[]⟩ : ByteArray), (⟨#[]⟩ : ByteArray), ([] : List ByteArray), (0 : Int), (0 : Nat)⟩
def k148 : Kd S148 := Kd.iso (Kd.pair Kd.bool (Kd.pair Kd.string (Kd.pair Kd.string (Kd.pair (Kd.slice 9 Kd.string) (Kd.pair (Kd.int .i8) kflt))))) (fun x : S148 => (x.f0, x.f1, x.f2, x.f3, x.f4, x.f5))
theorem k148_open {w : World} {x : S148} {cs : List Value} (h : k148.K w x cs) : ∃ A3 c3, cs = [.bool x.f0, .string x.f1, .string x.f2, .slice A3 x.f3.length c3, .int .i8 x.f4, .float .f64 x.f5] ∧ x.f3.length ≤ c3 ∧ Kd.string.C w A3 x.f3.length x.f3 := by
 obtain ⟨_, _, rfl, rfl, ⟨_, _, rfl, rfl, ⟨_, _, rfl, rfl, ⟨_, _, rfl, ⟨A3, c3, rfl, l3, g3⟩, ⟨_, _, rfl, rfl, rfl⟩⟩⟩⟩⟩ := h
 exact ⟨A3, c3, rfl, l3, g3⟩
theorem k148_mk (w : World) (x : S148) {A3 : Option Addr} {c3 : Nat} (l3 : x.f3.length ≤ c3) (g3 : Kd.string.C w A3 x.f3.length x.f3) : k148.K w x [.bool x.f0, .string x.f1, .string x.f2, .slice A3 x.f3.length c3, .int .i8 x.f4, .float .f64 x.f5] := ⟨[.bool x.f0], [.string x.f1, .string x.f2, .slice A3 x.f3.length c3, .int .i8 x.f4, .float .f64 x.f5], rfl, rfl, ⟨[.string x.f1], [.string x.f2, .slice A3 x.f3.length c3, .int .i8 x.f4, .float .f64 x.f5], rfl, rfl, ⟨[.string x.f2], [.slice A3 x.f3.length c3, .int .i8 x.f4, .float .f64 x.f5], rfl, rfl, ⟨[.slice A3 x.f3.length c3], [.int .i8 x.f4, .float .f64 x.f5], rfl, ⟨A3, c3, rfl, l3, g3⟩, ⟨[.int .i8 x.f4], [.float .f64 x.f5], rfl, rfl, rfl⟩⟩⟩⟩⟩
end Go.Proofs.YtdgkppldopiaoaaGreat.PG
/- Maps that a call makes: a block that holds a plain finite function; what a look-up, a store, 'm[k] op= v' and len come to. For every key type that the library knows. -/
namespace Go.Proofs.YtdgkppldopiaoaaGreat.BMap
open Go.RowKit Go.Maps Go.ChangeMaps Go.MapKept
open Classical
structure KeyOk {κ : Type} (P : Program) (kT : TypeId) (kenc : κ → Value) (ok : κ → Prop) : Prop where
 law : Keyed P kT
 is : ∀ k, ok k → ∃ l, keyOf P kT (kenc k) = some l
 inj : ∀ a b, kenc a = kenc b → a = b
noncomputable def upd {κ β : Type} (f : κ → Option β) (k : κ) (v : β) : κ → Option β := fun x => if x = k then some v else f x
theorem upd_same {κ β : Type} (f : κ → Option β) (k : κ) (v : β) : upd f k v k = some v := by simp [upd]
theorem upd_other {κ β : Type} (f : κ → Option β) {k x : κ} (v : β) (h : x ≠ k) : upd f k v x = f x := by simp [upd, h]
theorem upd_upd {κ β : Type} (f : κ → Option β) (k : κ) (v v' : β) : upd (upd f k v) k v' = upd f k v' := by
 funext x
 by_cases h : x = k <;> simp [upd, h]
structure MapF {κ β : Type} (kenc : κ → Value) (venc : β → Value) (ok : κ → Prop) (w : World) (b : Nat) (f : κ → Option β) (n : Nat) : Prop where
 out : ∃ (es : Array MapEntry) (clock : Nat) (l : List (κ × β)), w.heap[b]? = some (.map es clock) ∧ es.toList.map (fun e => (e.key, e.val)) = l.map (fun p => (kenc p.1, venc p.2)) ∧ (∀ p ∈ l, ok p.1) ∧ (l.map (·.1)).Nodup ∧
  (∀ e ∈ es.toList, e.born < clock) ∧ (es.toList.map (·.born)).Nodup ∧ (∀ k v, (k, v) ∈ l ↔ f k = some v) ∧ n = l.length
section
variable {κ β : Type} {P : Program} {kT e t : TypeId} {kenc : κ → Value} {venc : β → Value} {ok : κ → Prop} {w : World} {b n : Nat} {f : κ → Option β}
theorem MapF.made (w : World) : MapF kenc venc ok (w.alloc (.map #[] 0)) w.heap.size (fun _ => none) 0 :=
 ⟨#[], 0, [], (MapKept.heap_alloc w _).1, by simp, by simp, by simp, by simp, by simp, by simp, rfl⟩
theorem MapF.move {w' : World} (h : MapF kenc venc ok w b f n) (hb : w'.heap[b]? = w.heap[b]?) : MapF kenc venc ok w' b f n := by
 obtain ⟨es, c, l, h1, r⟩ := h.out
 exact ⟨es, c, l, hb.trans h1, r⟩
theorem MapF.lt (h : MapF kenc venc ok w b f n) : b < w.heap.size := by
 obtain ⟨es, c, l, h1, r⟩ := h.out
 exact (Array.getElem?_eq_some_iff.1 h1).1
theorem MapF.alloc (h : MapF kenc venc ok w b f n) (o : Obj) : MapF kenc venc ok (w.alloc o) b f n := h.move (Below.heap_alloc w o b h.lt)
theorem MapF.drewN (h : MapF kenc venc ok w b f n) (m : Nat) : MapF kenc venc ok (w.drewN m) b f n := h.move rfl
theorem MapF.drew (h : MapF kenc venc ok w b f n) : MapF kenc venc ok w.drew b f n := h.move rfl
theorem MapF.grown {w' : World} {row : Option Nat} (h : MapF kenc venc ok w b f n) (hg : w.grownBy w' row) (hne : some b ≠ row) : MapF kenc venc ok w' b f n := h.move (hg.block b h.lt hne)
theorem MapF.below {w' : World} (h : MapF kenc venc ok w b f n) (hb : Below w.heap.size w w') : MapF kenc venc ok w' b f n := h.move (hb.block b h.lt)
theorem MapF.setCell (h : MapF kenc venc ok w b f n) {p : Addr} (hp : p.block ≠ b) (u : Value) : MapF kenc venc ok (w.setCell p u) b f n := h.move (Below.heap_setCell w p u b (fun e => hp e.symm))
theorem found (K : KeyOk P kT kenc ok) {es : Array MapEntry} {l : List (κ × β)} (hl : es.toList.map (fun e => (e.key, e.val)) = l.map (fun p => (kenc p.1, venc p.2))) (hok : ∀ p ∈ l, ok p.1) {k : κ} (hk : ok k) (w : World) :
  ((Instr.findKey kT (kenc k) es.toList).run P w = .ok none w ∧ ∀ v, (k, v) ∉ l) ∨
  ∃ (j : Nat) (v : β) (e0 : MapEntry), (Instr.findKey kT (kenc k) es.toList).run P w = .ok (some (j, venc v)) w ∧ l[j]? = some (k, v) ∧ es[j]? = some e0 ∧ e0.key = kenc k ∧ e0.val = venc v := by
 obtain ⟨kl, hkl⟩ := K.is k hk
 have hes : ∀ e ∈ es.toList, ∃ l, keyOf P kT e.key = some l := by
  intro e he
  have : (e.key, e.val) ∈ l.map (fun p => (kenc p.1, venc p.2)) := by rw [← hl]; exact List.mem_map.2 ⟨e, he, rfl⟩
  obtain ⟨p, hp, h1⟩ := List.mem_map.1 this
  obtain ⟨q, hq⟩ := K.is p.1 (hok p hp)
  exact ⟨q, by rw [← (Prod.mk.inj h1).1]; exact hq⟩
 have at_ : ∀ j : Nat, (es.toList[j]?).map (fun e => (e.key, e.val)) = (l[j]?).map (fun p => (kenc p.1, venc p.2)) := by
  intro j
  have := congrArg (fun x => x[j]?) hl
  simpa using this
 rcases K.law.find w hkl es.toList hes with ⟨h1, h2⟩ | ⟨j, e0, h1, h2, h3⟩
 ·refine .inl ⟨h1, fun v hv => ?_⟩
  have : (kenc k, venc v) ∈ es.toList.map (fun e => (e.key, e.val)) := by rw [hl]; exact List.mem_map.2 ⟨(k, v), hv, rfl⟩
  obtain ⟨e, he, h4⟩ := List.mem_map.1 this
  exact h2 e he (Prod.mk.inj h4).1
 ·have h4 := at_ j
  rw [h2] at h4
  cases hp : l[j]? with
  | none => rw [hp] at h4; simp at h4
  | some p =>
   rw [hp] at h4
   simp only [Option.map_some, Option.some.injEq, Prod.mk.injEq] at h4
   have h5 : p.1 = k := K.inj _ _ (h4.1.symm.trans h3)
   refine .inr ⟨j, p.2, e0, by rw [← h4.2]; exact h1, by rw [← h5]; exact hp, by simpa using h2, h3, h4.2⟩
theorem MapF.lookup (h : MapF kenc venc ok w b f n) (K : KeyOk P kT kenc ok) (ht : P.underlying t = some (.map kT e)) {z : Value} (hz : (zeroValue e).run P w = .ok z w) {k : κ} (hk : ok k) (c : Bool) :
  (Instr.lookup t (.map (some b)) (kenc k) c).run P w = .ok (if c then .tuple #[((f k).map venc).getD z, .bool (f k).isSome] else ((f k).map venc).getD z) w := by
 obtain ⟨es, clock, l, hb, hl, hok, hnd, _, _, hf, _⟩ := h.out
 obtain ⟨kl, hkl⟩ := K.is k hk
 rcases found K hl hok hk w with ⟨h1, h2⟩ | ⟨j, v, e0, h1, h2, _⟩
 ·have : f k = none := by
   cases hfk : f k with
   | none => rfl
   | some v => exact absurd ((hf k v).2 hfk) (h2 v)
  simp [Instr.lookup, run_underlying ht, MapKept.run_getObj_map hb, K.law.check w _ hkl, h1, hz, Result.andThen, this]
 ·have : f k = some v := (hf k v).1 (List.mem_of_getElem? h2)
  simp [Instr.lookup, run_underlying ht, MapKept.run_getObj_map hb, K.law.check w _ hkl, h1, Result.andThen, this]
theorem MapF.len (h : MapF kenc venc ok w b f n) (ht : P.underlying t = some (.map kT e)) (ty : TypeId) : (Builtin.len_ #[t] ty #[.map (some b)]).run P w = .ok (.int .i64 n) w := by
 obtain ⟨es, clock, l, hb, hl, _, _, _, _, _, rfl⟩ := h.out
 have : es.size = l.length := by
  have := congrArg List.length hl
  simpa using this
 simp [Builtin.len_, run_underlying ht, MapKept.run_getObj_map hb, Result.andThen, goInt, this]
theorem put_new {es : Array MapEntry} {clock : Nat} {l : List (κ × β)} (hb : w.heap[b]? = some (.map es clock)) (hl : es.toList.map (fun e => (e.key, e.val)) = l.map (fun p => (kenc p.1, venc p.2))) (hok : ∀ p ∈ l, ok p.1)
  (hnd : (l.map (·.1)).Nodup) (hbo : ∀ e ∈ es.toList, e.born < clock) (hbn : (es.toList.map (·.born)).Nodup) (hf : ∀ k v, (k, v) ∈ l ↔ f k = some v) {k : κ} (hk : ok k) (hno : ∀ v, (k, v) ∉ l) (v : β) :
  MapF kenc venc ok (setBlock w b (.map (es.push { key := kenc k, val := venc v, born := clock }) (clock + 1))) b (upd f k v) (l.length + 1) := by
 refine ⟨_, _, l ++ [(k, v)], heap_setBlock_same hb _, by simp [hl], ?_, ?_, ?_, ?_, ?_, by simp⟩
 ·intro p hp
  rcases List.mem_append.1 hp with hp | hp
  ·exact hok p hp
  ·rw [List.mem_singleton.1 hp]; exact hk
 ·rw [List.map_append, List.nodup_append]
  refine ⟨hnd, by simp, ?_⟩
  intro a ha b' hb' e
  simp at hb'
  subst hb'
  subst e
  obtain ⟨p, hp, rfl⟩ := List.mem_map.1 ha
  exact hno p.2 hp
 ·intro e he
  simp at he
  rcases he with he | rfl
  ·have := hbo e (by simpa using he); omega
  ·simp
 ·rw [Array.toList_push, List.map_append, List.nodup_append]
  refine ⟨hbn, by simp, ?_⟩
  intro a ha b' hb' e
  simp at hb'
  subst hb'
  obtain ⟨x, hx, rfl⟩ := List.mem_map.1 ha
  have := hbo x hx
  omega
 ·intro k' v'
  rw [List.mem_append, hf]
  by_cases h : k' = k
  ·subst h
   have : f k' = none := by
    cases hfk : f k' with
    | none => rfl
    | some x => exact absurd ((hf k' x).2 hfk) (hno x)
   rw [this, upd_same]; simp [eq_comm]
  ·rw [upd_other f v h]; simp [h]
theorem put_old {es : Array MapEntry} {clock : Nat} {l : List (κ × β)} (hb : w.heap[b]? = some (.map es clock)) (hl : es.toList.map (fun e => (e.key, e.val)) = l.map (fun p => (kenc p.1, venc p.2))) (hok : ∀ p ∈ l, ok p.1)
  (hnd : (l.map (·.1)).Nodup) (hbo : ∀ e ∈ es.toList, e.born < clock) (hbn : (es.toList.map (·.born)).Nodup) (hf : ∀ k v, (k, v) ∈ l ↔ f k = some v) {k : κ} {v0 : β} {j : Nat} (hj : l[j]? = some (k, v0)) (v : β) (g : MapEntry → MapEntry)
  (hg : ∀ e0, es[j]? = some e0 → (g e0).key = kenc k ∧ (g e0).val = venc v ∧ (g e0).born = e0.born) :
  MapF kenc venc ok (setBlock w b (.map (es.modify j g) clock)) b (upd f k v) l.length := by
 have hjl : j < l.length := (List.getElem?_eq_some_iff.1 hj).1
 have hlen : es.size = l.length := by have := congrArg List.length hl; simpa using this
 have hje : j < es.size := by omega
 obtain ⟨g1, g2, g3⟩ := hg es[j] (Array.getElem?_eq_getElem hje)
 have hlist : (es.modify j g).toList = es.toList.set j (g es[j]) := by
  rw [Array.toList_modify, modify_eq_set _ _ _ es[j] (by simp [hje])]
 refine ⟨es.modify j g, clock, l.set j (k, v), heap_setBlock_same hb _, ?_, ?_, ?_, ?_, ?_, ?_, by simp⟩
 ·rw [hlist, List.map_set, hl, List.map_set, g1, g2]
 ·intro p hp
  rcases List.mem_or_eq_of_mem_set hp with hp | rfl
  ·exact hok p hp
  ·exact hok (k, v0) (List.mem_of_getElem? hj)
 ·rw [List.map_set]
  have : (l.map (·.1)).set j k = l.map (·.1) := by
   apply List.ext_getElem?
   intro i
   rw [List.getElem?_set]
   split
   ·rename_i h; subst h; rw [List.getElem?_map, hj]; simp [hjl]
   ·rfl
  rw [this]; exact hnd
 ·intro e he
  rw [hlist] at he
  rcases List.mem_or_eq_of_mem_set he with he | rfl
  ·exact hbo e he
  ·rw [g3]; exact hbo _ (by simp)
 ·rw [hlist, List.map_set, g3]
  have : (es.toList.map (·.born)).set j es[j].born = es.toList.map (·.born) := by
   apply List.ext_getElem?
   intro i
   rw [List.getElem?_set]
   split
   ·rename_i h; subst h; simp [hje]
   ·rfl
  rw [this]; exact hbn
 ·intro k' v'
  have key : ∀ (i : Nat) (p : κ × β), l[i]? = some p → p.1 = k → i = j := by
   intro i p hi hp
   have hi' : i < (l.map (·.1)).length := by simpa using (List.getElem?_eq_some_iff.1 hi).1
   have h1 : (l.map (·.1))[i]? = some k := by simp [hi, hp]
   have h2 : (l.map (·.1))[j]? = some k := by simp [hj]
   exact (List.getElem?_inj hi' hnd).1 (h1.trans h2.symm)
  by_cases h : k' = k
  ·subst h
   rw [upd_same]
   constructor
   ·intro hm
    obtain ⟨i, hi⟩ := List.mem_iff_getElem?.1 hm
    rw [List.getElem?_set] at hi
    split at hi
    ·simp at hi; exact congrArg some hi
    ·rename_i hne
     exact absurd (key i _ hi rfl).symm hne
   ·intro hv
    have hv := Option.some.inj hv
    subst hv
    exact List.mem_iff_getElem?.2 ⟨j, by simp [hjl]⟩
  ·rw [upd_other f v h, ← hf]
   constructor
   ·intro hm
    rcases List.mem_or_eq_of_mem_set hm with hm | hm
    ·exact hm
    ·exact absurd (Prod.mk.inj hm).1 h
   ·intro hm
    obtain ⟨i, hi⟩ := List.mem_iff_getElem?.1 hm
    refine List.mem_iff_getElem?.2 ⟨i, ?_⟩
    rw [List.getElem?_set, if_neg ?_]
    ·exact hi
    ·rintro rfl
     rw [hj] at hi
     exact h (Prod.mk.inj (Option.some.inj hi)).1.symm
theorem grown_setBlock {es es' : Array MapEntry} {clock clock' : Nat} (hb : w.heap[b]? = some (.map es clock)) : w.grownBy (setBlock w b (.map es' clock')) (some b) :=
 ⟨rfl, rfl, rfl, by simp [setBlock], fun i _ hi => heap_setBlock_other hb _ (fun e => hi (by rw [e]))⟩
theorem MapF.update (h : MapF kenc venc ok w b f n) (K : KeyOk P kT kenc ok) (ht : P.underlying t = some (.map kT e)) {k : κ} (hk : ok k) (v : β) :
  ∃ w', (Instr.mapUpdate t (.map (some b)) (kenc k) (venc v)).run P w = .ok () w' ∧ MapF kenc venc ok w' b (upd f k v) (n + if (f k).isSome then 0 else 1) ∧ w.grownBy w' (some b) := by
 obtain ⟨es, clock, l, hb, hl, hok, hnd, hbo, hbn, hf, rfl⟩ := h.out
 obtain ⟨kl, hkl⟩ := K.is k hk
 rcases found K hl hok hk w with ⟨h1, h2⟩ | ⟨j, v0, e0, h1, h2, h3, h4, h5⟩
 ·have : f k = none := by
   cases hfk : f k with
   | none => rfl
   | some v => exact absurd ((hf k v).2 hfk) (h2 v)
  refine ⟨_, ?_, by rw [this]; exact put_new hb hl hok hnd hbo hbn hf hk h2 v, grown_setBlock hb⟩
  simp [Instr.mapUpdate, run_underlying ht, MapKept.run_getObj_map hb, K.law.check w false hkl, h1, MapKept.run_setObj_map _ hb, Result.andThen, setBlock]
 ·have : f k = some v0 := (hf k v0).1 (List.mem_of_getElem? h2)
  refine ⟨_, ?_, by rw [this]; exact put_old hb hl hok hnd hbo hbn hf h2 v (fun e => { e with key := kenc k, val := venc v }) (fun _ _ => ⟨rfl, rfl, rfl⟩), grown_setBlock hb⟩
  simp [Instr.mapUpdate, run_underlying ht, MapKept.run_getObj_map hb, K.law.check w false hkl, h1, h3, h4, K.law.stays w hkl, MapKept.run_setObj_map _ hb, Result.andThen, setBlock]
theorem run_entryStore {es : Array MapEntry} {clock born i : Nat} (hb : w.heap[b]? = some (.map es clock)) (hidx : es.findIdx? (fun e => (e.born : Int) == (born : Int)) = some i) (v : Value) :
  (Instr.entryStore t (.map (some b)) (.int .i64 born) v).run P w = .ok () (setBlock w b (.map (es.modify i fun e => { e with val := v }) clock)) := by
 simp [Instr.entryStore, MapKept.run_getObj_map hb, asInt, asIntOf, hidx, MapKept.run_setObj_map _ hb, Result.andThen, setBlock]
theorem MapF.entry (h : MapF kenc venc ok w b f n) (K : KeyOk P kT kenc ok) (ht : P.underlying t = some (.map kT e)) {zv : β} (hz : (zeroValue e).run P w = .ok (venc zv) w) {k : κ} (hk : ok k) :
  ∃ w' stamp, (Instr.mapEntry t (.map (some b)) (kenc k)).run P w = .ok (.tuple #[venc ((f k).getD zv), .int .i64 stamp]) w' ∧ MapF kenc venc ok w' b (upd f k ((f k).getD zv)) (n + if (f k).isSome then 0 else 1) ∧ w.grownBy w' (some b) ∧
   ∀ v, ∃ w'', (Instr.entryStore t (.map (some b)) (.int .i64 stamp) (venc v)).run P w' = .ok () w'' ∧ MapF kenc venc ok w'' b (upd f k v) (n + if (f k).isSome then 0 else 1) ∧ w.grownBy w'' (some b) := by
 obtain ⟨es, clock, l, hb, hl, hok, hnd, hbo, hbn, hf, rfl⟩ := h.out
 obtain ⟨kl, hkl⟩ := K.is k hk
 have hlen : es.size = l.length := by have := congrArg List.length hl; simpa using this
 rcases found K hl hok hk w with ⟨h1, h2⟩ | ⟨j, v0, e0, h1, h2, h3, h4, h5⟩
 ·have hn : f k = none := by
   cases hfk : f k with
   | none => rfl
   | some v => exact absurd ((hf k v).2 hfk) (h2 v)
  have hM := put_new hb hl hok hnd hbo hbn hf hk h2 zv
  have hb' : (setBlock w b (.map (es.push { key := kenc k, val := venc zv, born := clock }) (clock + 1))).heap[b]? = some (.map (es.push { key := kenc k, val := venc zv, born := clock }) (clock + 1)) := heap_setBlock_same hb _
  refine ⟨_, clock, ?_, by rw [hn]; exact hM, grown_setBlock hb, fun v => ?_⟩
  ·simp [Instr.mapEntry, run_underlying ht, MapKept.run_getObj_map hb, K.law.check w false hkl, h1, hz, MapKept.run_setObj_map _ hb, Result.andThen, setBlock, goInt, hn]
  ·have hidx : (es.push { key := kenc k, val := venc zv, born := clock }).findIdx? (fun e => (e.born : Int) == (clock : Int)) = some es.size := by
    rw [Array.findIdx?_eq_some_iff_getElem]
    refine ⟨by simp, by simp, fun i hi => ?_⟩
    have hi' : i < es.size := by omega
    have := hbo es[i] (by simp)
    simp [Array.getElem_push, hi']
    omega
   obtain ⟨hes2, hl2⟩ : (es.push { key := kenc k, val := venc zv, born := clock }).toList.map (fun e => (e.key, e.val)) = (l ++ [(k, zv)]).map (fun p => (kenc p.1, venc p.2)) ∧ True := ⟨by simp [hl], trivial⟩
   have hM2 := put_old (w := setBlock w b (.map (es.push { key := kenc k, val := venc zv, born := clock }) (clock + 1))) (b := b) (f := upd f k zv) (k := k) (v0 := zv) (j := l.length) hb' hes2
    (by
      obtain ⟨es2, c2, l2, q1, q2, q3, q4, q5, q6, q7, q8⟩ := hM.out
      intro p hp
      rcases List.mem_append.1 hp with hp | hp
      ·exact hok p hp
      ·rw [List.mem_singleton.1 hp]; exact hk)
    (by
      rw [List.map_append, List.nodup_append]
      refine ⟨hnd, by simp, ?_⟩
      intro a ha b' hb2 e2
      simp at hb2
      subst hb2
      subst e2
      obtain ⟨p, hp, rfl⟩ := List.mem_map.1 ha
      exact h2 p.2 hp)
    (by
      intro e1 he
      simp at he
      rcases he with he | rfl
      ·have := hbo e1 (by simpa using he); omega
      ·simp)
    (by
      rw [Array.toList_push, List.map_append, List.nodup_append]
      refine ⟨hbn, by simp, ?_⟩
      intro a ha b' hb2 e2
      simp at hb2
      subst hb2
      obtain ⟨x, hx, rfl⟩ := List.mem_map.1 ha
      have := hbo x hx
      omega)
    (by
      intro k' v'
      rw [List.mem_append, hf]
      by_cases h : k' = k
      ·subst h; rw [hn, upd_same]; simp [eq_comm]
      ·rw [upd_other f zv h]; simp [h])
    (by simp) v (fun e1 => { e1 with val := venc v }) (fun e1 he1 => by
     rw [← hlen] at he1
     simp at he1
     subst he1
     exact ⟨rfl, rfl, rfl⟩)
   refine ⟨_, ?_, by rw [upd_upd] at hM2; rw [hn]; simpa using hM2, ?_⟩
   ·rw [← hlen]
    exact run_entryStore hb' hidx _
   ·exact ⟨rfl, rfl, rfl, by simp [setBlock], fun i _ hi => (heap_setBlock_other hb' _ (fun e => hi (by rw [e]))).trans (heap_setBlock_other hb _ (fun e => hi (by rw [e])))⟩
 ·have hs : f k = some v0 := (hf k v0).1 (List.mem_of_getElem? h2)
  have hM := put_old hb hl hok hnd hbo hbn hf h2 v0 (fun e => { e with key := kenc k }) (fun e1 he1 => by rw [h3] at he1; cases he1; exact ⟨rfl, h5, rfl⟩)
  have hb' : (setBlock w b (.map (es.modify j (fun e => { e with key := kenc k })) clock)).heap[b]? = some (.map (es.modify j (fun e => { e with key := kenc k })) clock) := heap_setBlock_same hb _
  have hje : j < es.size := (Array.getElem?_eq_some_iff.1 h3).1
  have he0 : es[j] = e0 := by rw [Array.getElem?_eq_getElem hje] at h3; exact Option.some.inj h3
  have hsame : es.modify j (fun e => { e with key := kenc k }) = es := by
   apply Array.ext
   ·simp
   ·intro i hi1 hi2
    rw [Array.getElem_modify]
    split
    ·rename_i h; subst h; rw [he0, ← h4]
    ·rfl
  refine ⟨_, e0.born, ?_, by rw [hs]; exact hM, grown_setBlock hb, fun v => ?_⟩
  ·simp [Instr.mapEntry, run_underlying ht, MapKept.run_getObj_map hb, K.law.check w false hkl, h1, h3, h4, K.law.stays w hkl, MapKept.run_setObj_map _ hb, Result.andThen, setBlock, goInt, hs]
  ·rw [hsame] at hb' ⊢
   have hidx : es.findIdx? (fun e => (e.born : Int) == (e0.born : Int)) = some j := by
    rw [Array.findIdx?_eq_some_iff_getElem]
    refine ⟨hje, by simp [he0], fun i hi => ?_⟩
    have hi' : i < es.size := by omega
    have hne : es[i].born ≠ es[j].born := by
     intro e1
     have h1 : (es.toList.map (·.born))[i]? = (es.toList.map (·.born))[j]? := by simp [hi', hje, e1]
     have := (List.getElem?_inj (by simpa using hi') hbn).1 h1
     omega
    rw [he0] at hne
    simp
    omega
   have hM2 := put_old (w := setBlock w b (.map es clock)) (f := f) hb' hl hok hnd hbo hbn hf h2 v (fun e => { e with val := venc v }) (fun e1 he1 => by rw [h3] at he1; cases he1; exact ⟨h4, rfl, rfl⟩)
   refine ⟨_, ?_, by rw [hs]; exact hM2, ?_⟩
   ·exact run_entryStore hb' hidx _
   ·exact ⟨rfl, rfl, rfl, by simp [setBlock], fun i _ hi => (heap_setBlock_other hb' _ (fun e => hi (by rw [e]))).trans (heap_setBlock_other hb _ (fun e => hi (by rw [e])))⟩
end
end Go.Proofs.YtdgkppldopiaoaaGreat.BMap
/- Arrays and structs as values: loaded from any address, a new variable that is written at once. -/
namespace Go.Proofs.YtdgkppldopiaoaaGreat.BRow
open Go.RowKit
section
variable {P : Program} {ops : Array Oper} {rest : List Oper} {o o1 o2 : Oper} {a : Act} {w : World} {Q : Exit → Act → World → Prop}
def aggDesc : TypeDesc → Bool
 | .struct _ | .array _ _ => true
 | _ => false
theorem run_loadVar_at (ty : TypeId) (a0 : Addr) (cs : List Value) (hc : ∀ j v, cs[j]? = some v → w.cell? (a0.add j) = some v) (d : TypeDesc) (hu : P.underlying ty = some d) (hd : aggDesc d = true)
  (hi : (P.info? ty).map (·.size) = some cs.length) : (loadVar ty a0).run P w = .ok (.agg cs.toArray) w := by
 have hl : (loadCells a0 cs.length).run P w = .ok cs.toArray w := run_loadCells_list (P := P) w a0 cs hc
 cases hq : P.info? ty with
 | none => simp [hq] at hi
 | some i =>
  have hs : i.size = cs.length := by simpa [hq] using hi
  have hagg : (isAgg ty).run P w = .ok true w := by
   unfold isAgg
   rw [Sem.run_bind, run_underlying hu w]
   cases d <;> simp_all [aggDesc]
  simp [loadVar, Sem.run_bind, hagg, sizeOf, typeInfo, hq, hs, hl]
theorem wp_load_at (ty : TypeId) (x : Operand) (ho : o.op = .load ty x) (a0 : Addr) (hx : a.eval x = .pointer (some a0)) (cs : List Value) (hc : ∀ j v, cs[j]? = some v → w.cell? (a0.add j) = some v)
  (d : TypeDesc) (hu : P.underlying ty = some d) (hd : aggDesc d = true) (hi : (P.info? ty).map (·.size) = some cs.length) {K : Act → World → Prop} (h : K (a.put o.dst (.agg cs.toArray)) w) : o.wp P a w K Q := by
 unfold Oper.wp execOp
 simp only [ho, hx, Instr.loadAt, Instr.sureAddr, Sem.run_bind, Sem.run_pure, Result.andThen_ok, run_loadVar_at ty a0 cs hc d hu hd hi]
 exact h
theorem wpList_load_at (hgd : o.guard = none) (ty : TypeId) (x : Operand) (ho : o.op = .load ty x) (a0 : Addr) (hx : a.eval x = .pointer (some a0)) (cs : List Value) (hc : ∀ j v, cs[j]? = some v → w.cell? (a0.add j) = some v)
  (d : TypeDesc) (hu : P.underlying ty = some d) (hd : aggDesc d = true) (hi : (P.info? ty).map (·.size) = some cs.length) (h : wpList P ops Q rest (a.put o.dst (.agg cs.toArray)) w) : wpList P ops Q (o :: rest) a w :=
 wpList_plain hgd fun _ hK => wp_load_at ty x ho a0 hx cs hc d hu hd hi (hK _ _ h)
theorem setRow_alloc (w : World) (cur L : Array Value) (t : TypeId) : (w.alloc (.cells cur t)).setRow w.heap.size L = w.alloc (.cells L t) := by
 have : ((w.heap.push (.cells cur t)).modify w.heap.size fun | .cells _ elem frozen => .cells L elem frozen | o => o) = w.heap.push (.cells L t) := by
  apply Array.ext
  ·simp
  ·intro i h1 h2
   rw [Array.getElem_modify]
   by_cases h : w.heap.size = i
   ·subst h; simp
   ·rw [if_neg h, Array.getElem_push, Array.getElem_push]
    split
    ·rfl
    ·rename_i h3; simp at h1; omega
 exact congrArg (fun h => ({ w with heap := h } : World)) this
theorem run_storeVar_new (ty : TypeId) (cur L : Array Value) (hi : (P.info? ty).map (·.size) = some L.size) (hs : cur.size = L.size) (h1 : ∀ v ∈ L.toList, v.oneCell' = true) :
  (storeVar ty ⟨w.heap.size, 0, none⟩ (.agg L)).run P (w.alloc (.cells cur ty)) = .ok () (w.alloc (.cells L ty)) := by
 cases hq : P.info? ty with
 | none => simp [hq] at hi
 | some i =>
  have hsz : i.size = L.size := by simpa [hq] using hi
  have hg : (w.alloc (.cells cur ty)).heap[w.heap.size]? = some (.cells cur ty (0, 0)) := heap_alloc_new w _
  have hst := run_storeCells_at P w.heap.size 0 ty L.toList 0 cur (w.alloc (.cells cur ty)) hg (by simp; omega) h1
  have e : cur.toList.take (0 + 0) ++ L.toList ++ cur.toList.drop (0 + 0 + L.toList.length) = L.toList := by
   simp; omega
  rw [e, Array.toArray_toList, setRow_alloc] at hst
  simp [storeVar, sizeOf, typeInfo, hq, Value.cells, hsz, hst]
theorem wpList_store_new (hg2 : o2.guard = none) (ty : TypeId) (p : Operand) (x : Operand) (ho2 : o2.op = .store ty p x) (cur L : Array Value) (hi : (P.info? ty).map (·.size) = some L.size) (hs : cur.size = L.size) (h1 : ∀ v ∈ L.toList, v.oneCell' = true)
  (hx : a.eval x = .agg L) (hp : a.eval p = .pointer (some ⟨w.heap.size, 0, none⟩))
  (h : wpList P ops Q rest (a.put o2.dst undef) (w.alloc (.cells L ty))) : wpList P ops Q (o2 :: rest) a (w.alloc (.cells cur ty)) := by
 refine wpList_plain hg2 fun K' hK' => ?_
 unfold Oper.wp execOp
 have hst := run_storeVar_new (P := P) (w := w) ty cur L hi hs h1
 simp only [ho2, hx, hp, Instr.storeAt, Instr.sureAddr, Sem.run_bind, Sem.run_pure, Result.andThen_ok, hst]
 exact hK' _ _ h
theorem wpList_alloc_store (hg1 : o1.guard = none) (hg2 : o2.guard = none) (ty : TypeId) (d : Tmp) (x : Operand) (ho1 : o1.op = .alloc ty) (hd1 : o1.dst = some d) (ho2 : o2.op = .store ty (.tmp d) x) (cur L : Array Value) (z : Value)
  (hz : (zeroValue ty).run P w = .ok z w) (hzc : z.cells = cur) (hi : (P.info? ty).map (·.size) = some L.size) (hs : cur.size = L.size) (h1 : ∀ v ∈ L.toList, v.oneCell' = true)
  (hx : (a.put (some d) (.pointer (some ⟨w.heap.size, 0, none⟩))).eval x = .agg L) (hp : (a.put (some d) (.pointer (some ⟨w.heap.size, 0, none⟩))).eval (.tmp d) = .pointer (some ⟨w.heap.size, 0, none⟩))
  (h : wpList P ops Q rest ((a.put (some d) (.pointer (some ⟨w.heap.size, 0, none⟩))).put o2.dst undef) (w.alloc (.cells L ty))) : wpList P ops Q (o1 :: o2 :: rest) a w := by
 rw [← hd1] at hx hp h
 refine wpList_plain hg1 fun K hK => ?_
 have hv : (newVar ty z).run P w = .ok ⟨w.heap.size, 0, none⟩ (w.alloc (.cells cur ty)) := by
  rw [← hzc]; rfl
 unfold Oper.wp execOp
 simp only [ho1, Instr.alloc, Sem.run_bind, hz, Result.andThen_ok, hv, Sem.run_pure]
 refine hK _ _ (wpList_plain hg2 fun K' hK' => ?_)
 unfold Oper.wp execOp
 have hst := run_storeVar_new (P := P) (w := w) ty cur L hi hs h1
 simp only [ho2, hx, hp, Instr.storeAt, Instr.sureAddr, Sem.run_bind, Sem.run_pure, Result.andThen_ok, hst]
 exact hK' _ _ h
end
end Go.Proofs.YtdgkppldopiaoaaGreat.BRow
/- graph.differ: whether no two lines are equal. -/
namespace Go.Proofs.YtdgkppldopiaoaaGreat.GDiffer
open Go.RowKit YtdgkppldopiaoaaGreatW.PrintWords YtdgkppldopiaoaaGreatW.PrintLast BMap BRow Go.Maps
theorem laidOut : laidOutB Tryz.prog = true := by kernel_rfl
theorem line_law : WideMaps.KeyLaw Tryz.prog 183 := deep_law_gate laidOut (of_decide_eq_true (by kernel_rfl)) (of_decide_eq_true (by kernel_rfl)) (by kernel_rfl) (by kernel_rfl)
theorem type112 : Tryz.prog.keyType 183 = true := by kernel_rfl
theorem cells112 : Tryz.prog.cellsOf 183 = 64 := by kernel_rfl
theorem cells104 : Tryz.prog.cellsOf 175 = 1 := by kernel_rfl
theorem depth : ∃ d, Tryz.prog.types.size + 1 = d + 2 := ⟨Tryz.prog.types.size - 1, by have : 1 ≤ Tryz.prog.types.size := of_decide_eq_true (by kernel_rfl); omega⟩
def lineOk (l : List Int) : Prop := l.length = 64 ∧ ∀ x ∈ l, (Lit.int .u16 x).wf = true
def lineV (l : List Int) : Value := .agg (nums .u16 l).toArray
theorem line_is (l : List Int) (h : lineOk l) : ∃ x, keyOf Tryz.prog 183 (lineV l) = some x := by
 obtain ⟨h1, h2⟩ := h
 have hk : Tryz.prog.keyLits (Tryz.prog.types.size + 1) 183 (nums .u16 l) = some (((List.range 64).map fun i => [Lit.int .u16 (l.getD i 0)]).flatten) := by
  obtain ⟨dep, hdep⟩ := depth
  rw [hdep]
  unfold Program.keyLits
  rw [Tryz.underlying183]
  simp only [cells112, nums_length, h1, if_true, cells104]
  rw [Go.ChangeShapes.mapM_range_of (g := fun i => [Lit.int .u16 (l.getD i 0)]) 64 ?_]
  ·rfl
  ·intro i hi
   have hl : i < l.length := by omega
   have e : ((nums .u16 l).drop (i * 1)).take 1 = [Value.int .u16 (l.getD i 0)] := by
    rw [Nat.mul_one, List.drop_eq_getElem_cons (by simpa [nums] using hl)]
    simp [nums, hl]
   rw [e]
   unfold Program.keyLits
   rw [Tryz.underlying175]
   have := h2 (l.getD i 0) (by simp [hl])
   simpa using this
 unfold keyOf
 rw [Tryz.underlying183]
 have hf : (lineV l).formed Tryz.prog 183 = true := by
  simp [Value.formed, lineV, Tryz.underlying183, cells112, h1, nums_length]
 simp only [type112, hf, Bool.and_self, if_true]
 show ∃ x, (Tryz.prog.keyLits (Tryz.prog.types.size + 1) 183 (nums .u16 l).toArray.toList).map _ = some x
 rw [List.toList_toArray, hk]
 exact ⟨_, rfl⟩
theorem nums_inj {k : IntKind} {a b : List Int} (h : nums k a = nums k b) : a = b := by
 have := congrArg (List.map fun | Value.int _ n => n | _ => 0) h
 simpa [nums, Function.comp_def] using this
theorem line_key : KeyOk Tryz.prog 183 lineV lineOk := ⟨Keyed.of_law line_law, line_is, fun a b h => by
 simp only [lineV, Value.agg.injEq] at h
 exact nums_inj (by simpa using congrArg Array.toList h)⟩
abbrev kLine : Kd (List Int) := Kd.arr 64 (Kd.int .u16) (by decide)
abbrev MapL := MapF lineV (Value.int .i64) lineOk
open Classical in
noncomputable def kindsR : List (List Int) → Nat
 | [] => 0
 | l :: r => kindsR r + if l ∈ r then 0 else 1
noncomputable def kinds (l : List (List Int)) : Nat := kindsR l.reverse
open Classical in
theorem kinds_snoc (l : List (List Int)) (x : List Int) : kinds (l ++ [x]) = kinds l + if x ∈ l then 0 else 1 := by
 simp [kinds, kindsR]
theorem kindsR_le : ∀ l, kindsR l ≤ l.length
 | [] => Nat.le_refl _
 | l :: r => by have := kindsR_le r; simp only [kindsR, List.length_cons]; split <;> omega
theorem kindsR_eq : ∀ l, kindsR l = l.length ↔ l.Nodup
 | [] => by simp [kindsR]
 | l :: r => by
  have h1 := kindsR_le r
  have h2 := kindsR_eq r
  simp only [kindsR, List.length_cons, List.nodup_cons]
  split
  ·rename_i h; constructor
   ·intro h'; omega
   ·intro h'; exact absurd h h'.1
  ·rename_i h; constructor
   ·intro h'; exact ⟨h, h2.1 (by omega)⟩
   ·intro h'; have := h2.2 h'.2; omega
theorem kinds_eq (l : List (List Int)) : kinds l = l.length ↔ l.Nodup := by
 rw [kinds, ← List.length_reverse, kindsR_eq]
 simp only [List.Nodup, List.pairwise_reverse, ne_comm]
theorem nums_one (k : IntKind) (l : List Int) : ∀ v ∈ (nums k l).toArray.toList, v.oneCell' = true := by
 intro v hv
 rw [List.toList_toArray] at hv
 obtain ⟨x, _, rfl⟩ := List.mem_map.1 hv
 rfl
theorem step_run {P : Program} {ops : Array Oper} {oi : Oper} {N : Option Tmp} {a : Act} {w w' : World} {v : Value} {K : Act → World → Prop} {Q : Exit → Act → World → Prop} (hw : Region.wanted oi (yielded ops a.tmps) = true) (hN : oi.dst = N)
  (hrun : (execOp a.eval oi).run P w = .ok (.value v) w') (h : K (a.put N v) w') : if Region.wanted oi (yielded ops a.tmps) = true then Oper.wp P oi a w K Q else K (a.put N undef) w := by
 rw [if_pos hw]
 subst hN
 unfold Oper.wp
 rw [hrun]
 exact h
theorem step_skip {P : Program} {ops : Array Oper} {oi : Oper} {N : Option Tmp} {a : Act} {w w' : World} {K : Act → World → Prop} {Q : Exit → Act → World → Prop} (hw : Region.wanted oi (yielded ops a.tmps) = true) (hN : oi.dst = N)
  (hrun : (execOp a.eval oi).run P w = .ok .skip w') (h : K (a.put N undef) w') : if Region.wanted oi (yielded ops a.tmps) = true then Oper.wp P oi a w K Q else K (a.put N undef) w := by
 rw [if_pos hw]
 subst hN
 unfold Oper.wp
 rw [hrun]
 exact h
structure Rel (ls : List (List Int)) (w : World) (k : Nat) (wr : World) (f : List Int → Option Int) (n : Nat) : Prop where
 map : MapL wr w.heap.size f n
 has : ∀ l, (f l).isSome = true ↔ l ∈ ls.take k
 many : n = kinds (ls.take k)
 below : Below w.heap.size w wr
theorem zero112 (w : World) : ∃ cur, (zeroValue 183).run Tryz.prog w = .ok (.agg cur) w ∧ cur.size = 64 := ⟨Array.replicate 64 (.int .u16 0), by kernel_rfl, by simp⟩
theorem zero3 (w : World) : (zeroValue 3).run Tryz.prog w = .ok (.int .i64 0) w := by kernel_rfl
theorem differ_calls (A : Option Addr) (c : Nat) (ls : List (List Int)) (w : World) (hC : kLine.C w A ls.length ls) (hok : ∀ l ∈ ls, lineOk l) :
  Calls Tryz.prog 88 #[.slice A ls.length c] w fun e w' => e = .returned (.bool (open Classical in decide ls.Nodup)) ∧ Below w.heap.size w w' := by
 have HC := jA hC
 have HOK := jA hok
 have hmax : ls.length ≤ 9223372036854775807 := hC.2.1
 clear hC hok
 have hmm := @run_makeMap Tryz.prog
 go_enter Tryz.func88, Tryz.ntmps88
 go_wp2
 clear hmm
 go_loopw [9] (fun v wr => ∃ (k : Nat) (f : List Int → Option Int) (n : Nat), k ≤ ls.length ∧ v = .int .i64 k ∧ Rel ls w k wr f n) (fun v _ => ls.length - (intOf v).toNat)
 case atStart => exact ⟨0, _, _, Nat.zero_le _, rfl, ⟨MapF.made w, by simp, by simp [kinds, kindsR], (Below.refl _ _).alloc (Nat.le_refl _) _⟩⟩
 case round =>
  obtain ⟨k, f, n, hk, rfl, hR⟩ := hrel
  have HR := jA hR
  clear hR
  by_cases hlt : k < ls.length
  ·obtain ⟨ad, cs, e0, hl, hK, hcell⟩ := Kd.C_get HC.out ([] : List Int) (k : Int) (by omega) (by omega)
   cases e0
   have hlo := HOK.out (ls[k]) (List.getElem_mem hlt)
   have hget : ls.getD (k : Int).toNat [] = ls[k] := by simp [hlt]
   rw [hget] at hK
   obtain ⟨_, rfl⟩ := Kd.arr_cells hK
   have hcw : ∀ (j : Nat) (v : Value), (nums .u16 ls[k])[j]? = some v → wr.cell? ((ad.add (k * 64)).add j) = some v := by
    intro j v hj
    have : w.cell? (ad.add (k * 64 + j)) = some v := hcell j v hj
    rw [← add_add] at this
    rw [HR.out.below.cell (World.block_lt_of_cell? w _ this)]
    exact this
   have HCW := jA hcw
   have HLO := jA hlo
   clear hl hK hcell hget hcw hlo
   obtain ⟨cur, hz, hcur⟩ := zero112 wr
   have HZ := jA hz
   have HCUR := jA hcur
   clear hz hcur
   go_wp2_with (first | ((with_reducible refine gate_dst (N := 12) rfl ?_); refine wpList_load_at rfl 183 (.tmp 11) rfl (ad.add (k * 64)) rfl (nums .u16 ls[k]) HCW.out _ Tryz.underlying183 rfl ?hi ?_; (case hi => rw [nums_length, HLO.out.1]; kernel_rfl); refine wpList_alloc_store rfl rfl 183 5 (.tmp 12) rfl rfl rfl cur (nums .u16 ls[k]).toArray _ HZ.out rfl ?hj ?hs ?h1 ?hx ?hp ?_; (case hx => rfl); (case hp => rfl); (case hj => rw [List.size_toArray, nums_length, HLO.out.1]; kernel_rfl); (case hs => exact HCUR.out.trans (by rw [List.size_toArray, nums_length, HLO.out.1])); (case h1 => exact nums_one _ _)))
   obtain ⟨W2, hW2⟩ : ∃ W2, W2 = wr.alloc (.cells (nums .u16 ls[k]).toArray 183) := ⟨_, rfl⟩
   have HM := HR.out.map.alloc (.cells (nums .u16 ls[k]).toArray 183)
   have HRow : (wr.alloc (.cells (nums .u16 ls[k]).toArray 183)).heap[wr.heap.size]? = some (.cells (nums .u16 ls[k]).toArray 183 (0, 0)) := heap_alloc_new wr _
   have HB := HR.out.below.alloc HR.out.below.size (.cells (nums .u16 ls[k]).toArray 183)
   rw [← hW2] at HM HRow HB ⊢
   clear hW2
   have HM := jA HM
   have HRow := jA HRow
   have HB := jA HB
   simp only [Act.put, List.setIfInBounds_toArray, List.set_cons_succ, List.set_cons_zero]
   obtain ⟨w3, stamp, hrun, hM3, hg3, hst⟩ := (HM.out.drew).entry line_key Tryz.underlying204 (zv := 0) (zero3 W2.drew) (k := ls[k]) HLO.out
   refine start_ (n := 7) (S := fun w' => w'.heap[wr.heap.size]? = some (.cells (nums .u16 ls[k]).toArray 183 (0, 0)) ∧ (Instr.lookup 204 (.map (some w.heap.size)) (lineV ls[k]) false).run Tryz.prog w' = .ok (.int .i64 ((f ls[k]).getD 0)) w') (ds := [6]) (Jb 7 0) (by kernel_rfl) rfl (by kernel_rfl) ⟨HRow.out, ?hlk⟩ (fun hHeld => ?_)
   case hlk =>
    have hq := (HM.out.drew).lookup line_key Tryz.underlying204 (zero3 W2.drew) HLO.out false
    have e : ((f ls[k]).map (Value.int IntKind.i64)).getD (.int .i64 0) = .int .i64 ((f ls[k]).getD 0) := by cases f ls[k] <;> rfl
    simp only [Bool.false_eq_true, if_false, e] at hq
    exact hq
   refine Jp 0 13 (Jb 7 1) rfl rfl ?_
   refine take_ (i := 1) (N := some 14) (v := ?_) (a' := ?_) (Jb 7 3) rfl rfl (by kernel_rfl) (fun _ _ _ h => h) (Or.inl ⟨by rfl, ?_⟩) hHeld ?_ ?_
   rotate_left
   ·rintro w' ⟨s0, s1⟩
    have hl := run_loadVar_row (P := Tryz.prog) w' wr.heap.size 183 183 (nums .u16 ls[k]).toArray (0, 0) _ s0 Tryz.underlying183 rfl (by rw [List.size_toArray, nums_length, HLO.out.1]; kernel_rfl)
    simp only [execOp, Act.eval, Instr.loadAt, Instr.sureAddr]
    simp
    rw [hl]
    rfl
   rotate_left
   ·simp only [Act.put, Jq, Jr, Js]
    rfl
   refine take_ (i := 2) (N := some 15) (v := ?_) (a' := ?_) (Jb 7 7) rfl rfl (by kernel_rfl) (fun _ _ _ h => h) (Or.inl ⟨by rfl, ?_⟩) hHeld ?_ ?_
   rotate_left
   ·rintro w' ⟨s0, s1⟩
    have s1' : (Instr.lookup 204 (.map (some w.heap.size)) (.agg (nums .u16 ls[k]).toArray) false).run Tryz.prog w' = .ok (.int .i64 ((f ls[k]).getD 0)) w' := s1
    simp [execOp, Act.eval, s1']
    rfl
   rotate_left
   ·simp only [Act.put, Jq, Jr, Js]
    rfl
   refine Jp 3 16 (Jb 7 15) rfl rfl ?_
   refine one_ (i := 4) (N := some 17) (Jb 7 31) rfl rfl (by kernel_rfl) (by decide) (fun K hK => ?_)
   refine step_run (w' := w3) (v := .tuple #[.int .i64 ((f ls[k]).getD 0), .int .i64 stamp]) rfl rfl ?_ ?_
   ·have hrun' : (Instr.mapEntry 204 (.map (some w.heap.size)) (.agg (nums .u16 ls[k]).toArray)).run Tryz.prog W2.drew = .ok (.tuple #[.int .i64 ((f ls[k]).getD 0), .int .i64 stamp]) w3 := hrun
    simp [execOp, Act.eval, hrun']
   refine hK.out _ _ ⟨?_, ?_⟩ (fun hHeld3 => ?_)
   ·rw [hg3.block _ (Array.getElem?_eq_some_iff.1 HRow.out).1 (by simp; have := HR.out.map.lt; omega)]
    exact HRow.out
   ·have hq := hM3.lookup line_key Tryz.underlying204 (zero3 w3) HLO.out false
    simp only [upd_same, Bool.false_eq_true, if_false] at hq
    exact hq
   clear hK K
   refine Jp 5 18 (Jb 7 63) rfl rfl ?_
   refine last_ (i := 6) (N := none) (Jb 7 127) rfl rfl (by kernel_rfl) (by decide) (fun K hK => ?_)
   obtain ⟨w4, hrun4, hM4, hg4⟩ := hst (IntKind.i64.wrap ((f ls[k]).getD 0 + 1))
   refine step_skip (w' := w4) rfl rfl ?_ ?_
   ·simp [execOp, Act.eval, hrun4]
   refine hK.out _ _ ?_
   clear hK K
   refine done_ (by kernel_rfl) ?_
   have HM4 := jA hM4
   have HG4 := jA hg4
   clear hM4 hg4 hrun4 hst hM3 hg3 hrun hHeld hHeld3
   go_wp2
   go_roundw
   case rel =>
    refine ⟨k + 1, _, _, by omega, by go_num, HM4.out, ?_, ?_, ?_⟩
    ·intro l
     rw [List.take_succ_eq_append_getElem hlt, List.mem_append, List.mem_singleton, ← HR.out.has l]
     by_cases h : l = ls[k]
     ·subst h; simp [upd_same]
     ·simp [upd_other _ _ h, h]
    ·rw [List.take_succ_eq_append_getElem hlt, kinds_snoc, ← HR.out.many]
     congr 1
     have := HR.out.has ls[k]
     by_cases h : ls[k] ∈ ls.take k
     ·rw [if_pos h, if_pos (this.2 h)]
     ·rw [if_neg h, if_neg (fun e => h (this.1 e))]
    ·exact (HB.out.drew).grown HG4.out HB.out.size (fun k hk => by cases hk; exact Nat.le_refl _)
   case measure => simp [intOf]; omega
  ·have hkk : k = ls.length := by omega
   subst hkk
   have hlen := HR.out.map.len Tryz.underlying204 3
   go_wp2
   go_ret
   refine ⟨?_, HR.out.below⟩
   show Ending.returned (Value.bool ((n : Int) == (ls.length : Int))) = _
   congr 2
   have h1 := HR.out.many
   rw [List.take_length] at h1
   have h2 := kinds_eq ls
   rw [← h1] at h2
   rw [Bool.eq_iff_iff, beq_iff_eq, decide_eq_true_iff, ← h2]
   omega
end Go.Proofs.YtdgkppldopiaoaaGreat.GDiffer
/- reach.lines: the names that each name leads to. -/
namespace Go.Proofs.YtdgkppldopiaoaaGreat.MLines
open Go.RowKit YtdgkppldopiaoaaGreatW.PrintWords YtdgkppldopiaoaaGreatW.PrintLast BMap BRow GDiffer Go.Maps
open PG
theorem str_law : WideMaps.KeyLaw Tryz.prog 9 := WideMaps.string_law Tryz.underlying9
abbrev okS (s : ByteArray) : Prop := s.size ≤ 140737488351232
theorem str_key : KeyOk Tryz.prog 9 Value.string okS := ⟨Keyed.of_law str_law, fun s h => ⟨_, WideMaps.keyOf_string_mk Tryz.underlying9 (Nat.le_trans h (by decide))⟩, fun a b h => by simpa using h⟩
def targets (ps : List S242) (s : ByteArray) : List ByteArray := (ps.filter (fun q => decide (q.f0 = s))).map (·.f1)
theorem targets_snoc (ps : List S242) (q : S242) (s : ByteArray) : targets (ps ++ [q]) s = targets ps s ++ if q.f0 = s then [q.f1] else [] := by
 unfold targets
 rw [List.filter_append, List.map_append]
 by_cases h : q.f0 = s <;> simp [h]
theorem targets_length (ps : List S242) (s : ByteArray) : (targets ps s).length ≤ ps.length := by
 unfold targets
 rw [List.length_map]
 exact List.length_filter_le _ _
structure Lines (w wr : World) (b : Nat) (f : ByteArray → Option Value) (n : Nat) (ps : List S242) : Prop where
 map : MapF Value.string id okS wr b f n
 ge : w.heap.size ≤ b
 no : ∀ s, f s = none → targets ps s = []
 vals : ∀ s v, f s = some v → Kd.R Kd.string 9 wr w.heap.size (fun k => k ≠ b) v (targets ps s)
 apart : ∀ s s' v v' k, s ≠ s' → f s = some v → f s' = some v' → v.ownBlock = some k → v'.ownBlock ≠ some k
 below : Below w.heap.size w wr
theorem z76 (w : World) : (zeroValue 76).run Tryz.prog w = .ok (.slice none 0 0) w := by kernel_rfl
theorem Lines.move {w wr w1 : World} {b : Nat} {f : ByteArray → Option Value} {n : Nat} {ps : List S242} (h : Lines w wr b f n ps) (hb : Below wr.heap.size wr w1) : Lines w w1 b f n ps :=
 ⟨h.map.below hb, h.ge, h.no, fun s v hv => Kd.R_below (h.vals s v hv) hb, h.apart, below_then h.below h.below.size hb⟩
theorem R_str {w : World} {base : Nat} {ok ok' : Nat → Prop} {v : Value} {xs : List ByteArray} (h : Kd.R Kd.string 9 w base ok v xs) (h' : ∀ k, v.ownBlock = some k → ok' k) : Kd.R Kd.string 9 w base ok' v xs := ⟨h', h.2⟩
theorem R_lt {w : World} {base : Nat} {ok : Nat → Prop} {v : Value} {xs : List ByteArray} (h : Kd.R Kd.string 9 w base ok v xs) (k : Nat) (hk : v.ownBlock = some k) : k < w.heap.size := (Kd.R_bound h).1 k hk |>.2.2.1
theorem Lines.put {w W w1 w4 : World} {b : Nat} {f : ByteArray → Option Value} {n n' : Nat} {ps : List S242} {q : S242} {v0 v1 : Value} (h : Lines w W b f n ps) (hv0 : v0 = (f q.f0).getD (.slice none 0 0))
  (hR1 : Kd.R Kd.string 9 w1 w.heap.size (fun k => k ≠ b) v1 (targets ps q.f0 ++ [q.f1])) (hB1 : Below w.heap.size w w1) (hg1 : W.grownBy w1 v0.ownBlock) (Za : v1.ownBlock = v0.ownBlock ∨ ∃ b, v1.ownBlock = some b ∧ W.heap.size ≤ b)
  (hM4 : MapF Value.string id okS w4 b (upd f q.f0 v1) n') (hg4 : w1.grownBy w4 (some b)) : Lines w w4 b (upd f q.f0 v1) n' (ps ++ [q]) where
 map := hM4
 ge := h.ge
 no := fun s hs => by
  by_cases e : s = q.f0
  ·subst e; rw [upd_same] at hs; cases hs
  ·rw [upd_other _ _ e] at hs
   rw [targets_snoc, if_neg (fun k => e k.symm), List.append_nil, h.no s hs]
 vals := fun s v hs => by
  by_cases e : s = q.f0
  ·subst e
   rw [upd_same] at hs
   obtain rfl := Option.some.inj hs
   rw [targets_snoc, if_pos rfl]
   exact Kd.R_grown hR1 hg4 (fun k hk => fun e => hk (Option.some.inj e))
  ·rw [upd_other _ _ e] at hs
   rw [targets_snoc, if_neg (fun k => e k.symm), List.append_nil]
   have h1 := h.vals s v hs
   have h2 : Kd.R Kd.string 9 W w.heap.size (fun k => k ≠ b ∧ some k ≠ v0.ownBlock) v (targets ps s) := R_str h1 fun k hk => ⟨h1.1 k hk, by
    subst hv0
    cases hf : f q.f0 with
    | none => simp [Value.ownBlock]
    | some v' =>
     intro hh
     exact h.apart s q.f0 v v' k e hs hf hk hh.symm⟩
   have h3 := Kd.R_grown h2 hg1 (fun k hk => hk.2)
   exact Kd.R_mono (Kd.R_grown h3 hg4 (fun k hk => fun e => hk.1 (Option.some.inj e))) (fun k hk => hk.1)
 apart := fun s s' v v' k hne hs hs' hk hk' => by
  have hfar : ∀ t u, t ≠ q.f0 → f t = some u → u.ownBlock = some k → v1.ownBlock = some k → False := by
   intro t u ht hu huk h1k
   rcases Za with e | ⟨g, e, hge⟩
   ·subst hv0
    cases hf : f q.f0 with
    | none => rw [hf] at e; rw [e] at h1k; simp [Value.ownBlock] at h1k
    | some u' => rw [hf] at e; rw [e] at h1k; exact h.apart t q.f0 u u' k ht hu hf huk h1k
   ·rw [e] at h1k
    have := R_lt (h.vals t u hu) k huk
    have := Option.some.inj h1k
    omega
  by_cases e : s = q.f0
  ·by_cases e' : s' = q.f0
   ·exact hne (e.trans e'.symm)
   ·rw [e, upd_same] at hs
    rw [upd_other _ _ e'] at hs'
    obtain rfl := Option.some.inj hs
    exact hfar s' v' e' hs' hk' hk
  ·rw [upd_other _ _ e] at hs
   by_cases e' : s' = q.f0
   ·rw [e', upd_same] at hs'
    obtain rfl := Option.some.inj hs'
    exact hfar s v e hs hk hk'
   ·rw [upd_other _ _ e'] at hs'
    exact h.apart s s' v v' k hne hs hs' hk hk'
 below := hB1.grown hg4 (Nat.le_trans h.below.size (hg1.size)) (fun k hk => by cases hk; exact h.ge)
theorem lines_calls (A : Option Addr) (c : Nat) (ps : List S242) (w : World) (hC : Kd.C k242 w A ps.length ps) (hc : ps.length ≤ c) (hb : ps.length ≤ 8796093021952) (hok : ∀ q ∈ ps, okS q.f0) :
  Calls Tryz.prog 135 #[.slice A ps.length c] w fun e w' => ∃ b f n, e = .returned (.map (some b)) ∧ Lines w w' b f n ps := by
 have hmax : ps.length ≤ 9223372036854775807 := hC.2.1
 have HC := jA hC
 have HCC := jA hc
 have HOK := jA hok
 have HBB := jA hb
 clear hC hc hok hb
 have hmm := @run_makeMap Tryz.prog
 go_enter Tryz.func135, Tryz.ntmps135
 go_wp2
 clear hmm
 go_loopw [9] (fun v wr => ∃ (k : Nat) (f : ByteArray → Option Value) (n : Nat), k ≤ ps.length ∧ v = .int .i64 k ∧ Aside0 (Lines w wr w.heap.size f n (ps.take k))) (fun v _ => ps.length - (intOf v).toNat)
 case atStart => exact ⟨0, _, _, Nat.zero_le _, rfl, ⟨⟨MapF.made w, Nat.le_refl _, fun s _ => by simp [targets], fun s v h => by simp at h, fun s s' v v' k _ h => by simp at h, (Below.refl _ _).alloc (Nat.le_refl _) _⟩⟩⟩
 case round =>
  obtain ⟨k, f, n, hk, rfl, HR⟩ := hrel
  by_cases hlt : k < ps.length
  ·obtain ⟨ad, e0, hx0, hx1⟩ := at_T242 HC.out (k : Int) (by omega) (by omega)
   cases e0
   have hget : rd_T242 ps (k : Int) = ps[k] := by simp [rd_T242, hlt]
   simp only [hget, Int.toNat_natCast] at hx0 hx1
   have hq := HOK.out ps[k] (List.getElem_mem hlt)
   obtain ⟨q, hqq⟩ : ∃ q, q = ps[k] := ⟨_, rfl⟩
   rw [← hqq] at hx0 hx1 hq
   have HQ := jA hq
   have HQQ := jA hqq
   clear hq hqq hget
   replace hx0 := (HR.out.below.cell (World.block_lt_of_cell? w _ hx0)).trans hx0
   replace hx1 := (HR.out.below.cell (World.block_lt_of_cell? w _ hx1)).trans hx1
   have c0' : (k : Int) < ps.length := by omega
   go_upto_region 5 with fail
   obtain ⟨W2, hW2⟩ : ∃ W2, W2 = (wr.alloc (.cells #[.string q.f0, .string q.f1] 242)).drew := ⟨_, rfl⟩
   have HW := (HR.out.move (below_drew (below_alloc (Below.refl _ _) (.cells #[.string q.f0, .string q.f1] 242))))
   have hc0 : W2.cell? ⟨wr.heap.size, 0, none⟩ = some (.string q.f0) := by subst hW2; go_simp
   have hc1 : W2.cell? ⟨wr.heap.size, 1, none⟩ = some (.string q.f1) := by subst hW2; go_simp
   have hgt : w.heap.size < W2.heap.size := by subst hW2; have := HR.out.map.lt; simp; omega
   have Zc : wr.heap.size < W2.heap.size := by subst hW2; simp
   rw [← hW2] at HW
   obtain ⟨v0, hv0⟩ : ∃ v0, v0 = (f q.f0).getD (.slice none 0 0) := ⟨_, rfl⟩
   have hlk : (Instr.lookup 248 (.map (some w.heap.size)) (.string q.f0) false).run Tryz.prog W2 = .ok v0 W2 := by
    have := HW.map.lookup str_key Tryz.underlying248 (z76 W2) HQ.out false
    subst hv0
    simpa using this
   have hR0 : Kd.R Kd.string 9 W2 w.heap.size (fun k => k ≠ w.heap.size) v0 (targets (ps.take k) q.f0) := by
    subst hv0
    cases hf : f q.f0 with
    | none => rw [HW.no _ hf]; exact Kd.R_nil _ _ _ _ _
    | some v => exact HW.vals _ _ hf
   have Zd : some w.heap.size ≠ v0.ownBlock := fun e => hR0.1 _ e.symm rfl
   have Ze : some wr.heap.size ≠ v0.ownBlock := by
    subst hv0
    cases hf : f q.f0 with
    | none => simp [Value.ownBlock]
    | some v =>
     intro e
     exact Nat.lt_irrefl _ (R_lt (HR.out.vals _ _ hf) _ e.symm)
   clear HR
   have hfresh : ∀ k, W2.heap.size ≤ k → k ≠ w.heap.size := fun k hk => by omega
   have hlim : ((targets (ps.take k) q.f0).length + 1) * 16 ≤ 140737488355328 := by
    have h1 := targets_length (ps.take k) q.f0
    have h2 := HBB.out
    rw [List.length_take] at h1
    omega
   refine start_ (n := 12) (S := fun w' => w'.cell? ⟨wr.heap.size, 0, none⟩ = some (.string q.f0) ∧ w'.cell? ⟨wr.heap.size, 1, none⟩ = some (.string q.f1) ∧ (Instr.lookup 248 (.map (some w.heap.size)) (.string q.f0) false).run Tryz.prog w' = .ok v0 w') (ds := [11]) (Jb 12 0) (by kernel_rfl) rfl (by kernel_rfl) (by rw [← hW2]; exact ⟨hc0, hc1, hlk⟩) (fun hHeld => ?_)
   rw [← hW2] at hHeld ⊢
   clear hW2
   refine Jp 0 13 (Jb 12 1) rfl rfl ?_
   refine Jp 1 14 (Jb 12 3) rfl rfl ?_
   refine Jk 2 15 (Jb 12 7) rfl rfl hHeld (.inl ⟨by rfl, by rintro w' ⟨s0, s1, s2⟩; go_simp; with_reducible rfl⟩) ?_
   refine Jp 3 16 (Jb 12 15) rfl rfl ?_
   refine Jp 4 17 (Jb 12 31) rfl rfl ?_
   refine Jk 5 18 (Jb 12 63) rfl rfl hHeld (.inl ⟨by rfl, by rintro w' ⟨s0, s1, s2⟩; go_simp; with_reducible rfl⟩) ?_
   refine take_ (i := 6) (N := some 19) (v := ?_) (a' := ?_) (Jb 12 127) rfl rfl (by kernel_rfl) (fun _ _ _ h => h) (Or.inl ⟨by rfl, ?_⟩) hHeld ?_ ?_
   rotate_left
   ·rintro w' ⟨s0, s1, s2⟩
    simp [execOp, Act.eval, s2]
    rfl
   rotate_left
   ·simp only [Act.put, Jq, Jr, Js]
    rfl
   refine Jp 7 20 (Jb 12 255) rfl rfl ?_
   refine Jk 8 21 (Jb 12 511) rfl rfl hHeld (.inl ⟨by rfl, by rintro w' ⟨s0, s1, s2⟩; go_simp; with_reducible rfl⟩) ?_
   refine one_ (i := 9) (N := some 22) (Jb 12 1023) rfl rfl (by kernel_rfl) (by decide) (fun K hK => ?_)
   refine GDiffer.step_run rfl rfl (w' := W2.alloc (.cells #[.string q.f1] 9)) (v := .slice (some ⟨W2.heap.size, 0, none⟩) 1 1) (by go_simp) ?_
   refine hK.out _ _ ⟨?_, ?_, ?_⟩ (fun hHeld => ?_)
   ·exact pw_cell_below (below_alloc (Below.refl _ _) _) hc0
   ·exact pw_cell_below (below_alloc (Below.refl _ _) _) hc1
   ·have := (HW.map.alloc (.cells #[.string q.f1] 9)).lookup str_key Tryz.underlying248 (z76 _) HQ.out false
    subst hv0
    simpa using this
   clear hK K
   refine norm_ (a' := ?_) ?_ ?_; rotate_left; (show Act.put _ (some 22) _ = _; simp only [Act.put, Jq, Jr, Js]; rfl)
   refine one_ (i := 10) (N := some 23) (Jb 12 2047) rfl rfl (by kernel_rfl) (by decide) (fun K hK => ?_)
   refine Kd.R_append_step Kd.string (w0 := w) w.heap.size rfl (.tmp 19) (.tmp 22) 76 9 (.string ⟨#[]⟩) 16 rfl Tryz.underlying76 info9 rfl (by decide) (by decide) v0 (targets (ps.take k) q.f0) q.f1 [.string q.f1] (fun k => k ≠ w.heap.size) (fun _ => False) rfl rfl rfl (fun _ hk => hk.elim) hfresh hR0 HW.below (HW.below.size) hlim (fun v1 w1 hR1 hB1 hg1 Za => ?_)
   refine hK.out _ _ ⟨?_, ?_, ?_⟩ (fun hHeld => ?_)
   ·exact (World.cell?_of_block (w := W2) (hg1.block _ Zc Ze)).trans hc0
   ·exact (World.cell?_of_block (w := W2) (hg1.block _ Zc Ze)).trans hc1
   ·have := (HW.map.grown hg1 Zd).lookup str_key Tryz.underlying248 (z76 _) HQ.out false
    subst hv0
    simpa using this
   clear hK K
   refine norm_ (a' := ?_) ?_ ?_; rotate_left; (show Act.put _ (some 23) _ = _; simp only [Act.put, Jq, Jr, Js]; rfl)
   refine last_ (i := 11) (N := none) (Jb 12 4095) rfl rfl (by kernel_rfl) (by decide) (fun K hK => ?_)
   obtain ⟨w4, Zb, hM4, hg4⟩ := (HW.map.grown hg1 Zd).update str_key Tryz.underlying248 HQ.out v1
   refine GDiffer.step_skip (w' := w4) rfl rfl (by have hrun4' : (Instr.mapUpdate 248 (.map (some w.heap.size)) (.string q.f0) v1).run Tryz.prog w1 = .ok () w4 := Zb; simp [execOp, Act.eval, hrun4']) ?_
   refine hK.out _ _ ?_
   clear hK K
   refine done_ (by kernel_rfl) ?_
   have HN := jA (HW.put hv0 hR1 hB1 hg1 Za hM4 hg4)
   clear hM4 hg4 Zb hR1 hB1 hg1 Za HW
   go_wp2
   go_roundw
   case rel =>
    have HN2 := HN.out
    rw [HQQ.out, ← List.take_succ_eq_append_getElem hlt] at HN2
    exact ⟨k + 1, _, _, by omega, by go_num, ⟨HN2⟩⟩
   case measure => simp [intOf]; omega
  ·have hkk : k = ps.length := by omega
   subst hkk
   go_wp2
   go_ret
   have hfin := HR.out
   rw [List.take_length] at hfin
   exact ⟨_, _, _, rfl, hfin⟩
end Go.Proofs.YtdgkppldopiaoaaGreat.MLines
/- reach.Close's put: the closure. -/
namespace Go.Proofs.YtdgkppldopiaoaaGreat.MPut
open Go.RowKit YtdgkppldopiaoaaGreatW.PrintWords YtdgkppldopiaoaaGreatW.PrintLast YtdgkppldopiaoaaGreatW.PrintMore BMap BRow MLines Go.Maps
open PG
open Classical in
noncomputable def put1 (L : List ByteArray) (x : ByteArray) : List ByteArray := if x ∈ L then L else L ++ [x]
noncomputable def putAll (L xs : List ByteArray) : List ByteArray := xs.foldl put1 L
theorem putAll_snoc (L xs : List ByteArray) (x : ByteArray) : putAll L (xs ++ [x]) = put1 (putAll L xs) x := by simp [putAll]
theorem mem_put1 (L : List ByteArray) (x s : ByteArray) : s ∈ put1 L x ↔ s ∈ L ∨ s = x := by
 unfold put1
 split
 ·rename_i h; constructor
  ·exact .inl
  ·rintro (h' | rfl)
   ·exact h'
   ·exact h
 ·simp
theorem mem_putAll (L : List ByteArray) (s : ByteArray) : ∀ xs, s ∈ putAll L xs ↔ s ∈ L ∨ s ∈ xs := by
 intro xs
 induction xs generalizing L with
 | nil => simp [putAll]
 | cons x r ih =>
  have := ih (put1 L x)
  rw [show putAll L (x :: r) = putAll (put1 L x) r from rfl, this, mem_put1, List.mem_cons]
  constructor
  ·rintro ((h | h) | h)
   ·exact .inl h
   ·exact .inr (.inl h)
   ·exact .inr (.inr h)
  ·rintro (h | h | h)
   ·exact .inl (.inl h)
   ·exact .inl (.inr h)
   ·exact .inr h
theorem nodup_put1 {L : List ByteArray} (h : L.Nodup) (x : ByteArray) : (put1 L x).Nodup := by
 unfold put1
 split
 ·exact h
 ·rename_i hx
  rw [List.nodup_append]
  refine ⟨h, by simp, fun a ha b hb e => ?_⟩
  simp at hb
  exact hx (hb ▸ e ▸ ha)
theorem nodup_putAll : ∀ (xs : List ByteArray) {L : List ByteArray}, L.Nodup → (putAll L xs).Nodup
 | [], _, h => h
 | x :: r, _, h => nodup_putAll r (nodup_put1 h x)
theorem put1_prefix (L : List ByteArray) (x : ByteArray) : ∃ M, put1 L x = L ++ M := by
 unfold put1
 split
 ·exact ⟨[], by simp⟩
 ·exact ⟨[x], rfl⟩
theorem putAll_prefix : ∀ (xs L : List ByteArray), ∃ M, putAll L xs = L ++ M
 | [], L => ⟨[], by simp [putAll]⟩
 | x :: r, L => by
  obtain ⟨M, hM⟩ := put1_prefix L x
  obtain ⟨M', hM'⟩ := putAll_prefix r (put1 L x)
  exact ⟨M ++ M', by show putAll (put1 L x) r = _; rw [hM', hM, List.append_assoc]⟩
theorem nodup_le : ∀ (l U : List ByteArray), l.Nodup → (∀ s ∈ l, s ∈ U) → l.length ≤ U.length
 | [], _, _, _ => Nat.zero_le _
 | x :: r, U, h, hs => by
  have hx : x ∈ U := hs x (by simp)
  obtain ⟨A, B, rfl⟩ := List.append_of_mem hx
  have h1 := (List.nodup_cons.1 h)
  have := nodup_le r (A ++ B) h1.2 (fun s hsr => by
   have := hs s (by simp [hsr])
   simp only [List.mem_append, List.mem_cons] at this ⊢
   rcases this with h2 | rfl | h2
   ·exact .inl h2
   ·exact absurd hsr h1.1
   ·exact .inr h2)
  simp at this ⊢
  omega
abbrev unitV : Unit → Value := fun _ => .agg #[]
structure Seen (w wr : World) (bs bm bl : Nat) (f : ByteArray → Option Unit) (n : Nat) (v : Value) (L : List ByteArray) : Prop where
 svar : wr.heap[bs]? = some (.cells #[.map (some bm)] 220 (0, 0))
 map : MapF Value.string unitV okS wr bm f n
 lvar : wr.heap[bl]? = some (.cells #[v] 76 (0, 0))
 row : Kd.R Kd.string 9 wr w.heap.size (fun k => k ≠ bs ∧ k ≠ bm ∧ k ≠ bl) v L
 has : ∀ s, (f s).isSome = true ↔ s ∈ L
 gs : w.heap.size ≤ bs
 gm : w.heap.size ≤ bm
 gl : w.heap.size ≤ bl
 sm : bs ≠ bm
 sl : bs ≠ bl
 ml : bm ≠ bl
 below : Below w.heap.size w wr
theorem Seen.move {w wr w1 : World} {bs bm bl : Nat} {f : ByteArray → Option Unit} {n : Nat} {v : Value} {L : List ByteArray} (h : Seen w wr bs bm bl f n v L) (hb : Below wr.heap.size wr w1) : Seen w w1 bs bm bl f n v L :=
 { h with svar := (hb.block _ (Array.getElem?_eq_some_iff.1 h.svar).1).trans h.svar, map := h.map.below hb, lvar := (hb.block _ (Array.getElem?_eq_some_iff.1 h.lvar).1).trans h.lvar, row := Kd.R_below h.row hb, below := below_then h.below h.below.size hb }
theorem z243 (w : World) : (zeroValue 243).run Tryz.prog w = .ok (.agg #[]) w := by kernel_rfl
theorem frozen_of_row {w : World} {g : Nat} {cs : Array Value} {t : TypeId} (h : w.heap[g]? = some (.cells cs t (0, 0))) (i : Nat) : w.frozen? ⟨g, i, none⟩ = false := by simp [World.frozen?, h]
theorem seen_put {w W w4 w8 : World} {bs bm bl : Nat} {f : ByteArray → Option Unit} {n n' : Nat} {v v8 : Value} {L : List ByteArray} {x : ByteArray} (h : Seen w W bs bm bl f n v L) (hM : MapF Value.string unitV okS w4 bm (upd f x ()) n')
  (hs : w4.heap[bs]? = some (.cells #[.map (some bm)] 220 (0, 0))) (hl : w8.heap[bl]? = some (.cells #[v] 76 (0, 0))) (hR : Kd.R Kd.string 9 w8 w.heap.size (fun k => k ≠ bs ∧ k ≠ bm ∧ k ≠ bl) v8 (L ++ [x])) (hB : Below w.heap.size w w8) (hg : w4.grownBy w8 v.ownBlock)
  (hR4 : Kd.R Kd.string 9 w4 w.heap.size (fun k => k ≠ bs ∧ k ≠ bm ∧ k ≠ bl) v L) : Seen w (w8.setCell ⟨bl, 0, none⟩ v8) bs bm bl (upd f x ()) n' v8 (L ++ [x]) where
 svar := by
  have : w8.heap[bs]? = some (.cells #[.map (some bm)] 220 (0, 0)) := (hg.block _ (Array.getElem?_eq_some_iff.1 hs).1 (fun e => (hR4.1 _ e.symm).1 rfl)).trans hs
  exact (Below.heap_setCell _ _ _ _ h.sl).trans this
 map := (hM.grown hg (fun e => (hR4.1 _ e.symm).2.1 rfl)).setCell (fun e => h.ml e.symm) _
 lvar := one_setCell hl
 row := Kd.R_far hR (fun k hk => hk.2.2) _
 has := fun s => by
  by_cases e : s = x
  ·subst e; simp [upd_same]
  ·rw [upd_other _ _ e, List.mem_append, List.mem_singleton, h.has s]
   simp [e]
 gs := h.gs
 gm := h.gm
 gl := h.gl
 sm := h.sm
 sl := h.sl
 ml := h.ml
 below := hB.setCell h.gl _
theorem put_calls (A : Option Addr) (c : Nat) (xs : List ByteArray) (w w0 : World) (bs bm bl : Nat) (f : ByteArray → Option Unit) (n : Nat) (v : Value) (L U : List ByteArray) (hS : Seen w w0 bs bm bl f n v L)
  (hC : ∀ wr, Below w.heap.size w wr → Kd.C Kd.string wr A xs.length xs) (hok : ∀ s ∈ xs, okS s) (hL : L.Nodup) (hU : ∀ s, s ∈ L ∨ s ∈ xs → s ∈ U) (hlim : U.length ≤ 8796093022207) :
  Calls Tryz.prog 141 #[.slice A xs.length c, .pointer (some ⟨bs, 0, none⟩), .pointer (some ⟨bl, 0, none⟩)] w0 fun e w' => e = .returned (.tuple #[]) ∧ ∃ f' n' v', Seen w w' bs bm bl f' n' v' (putAll L xs) := by
 have hmax : xs.length ≤ 9223372036854775807 := (hC w0 hS.below).2.1
 have HS0 := jA hS
 have HC := jA hC
 have HOK := jA hok
 have HL := jA hL
 have HU := jA hU
 have HLIM := jA hlim
 clear hS hC hok hL hU hlim
 go_enter Tryz.func141, Tryz.ntmps141
 go_wp2
 go_loopw [10] (fun u wr => ∃ (k : Nat) (f : ByteArray → Option Unit) (n : Nat) (v : Value), k ≤ xs.length ∧ u = .int .i64 k ∧ Aside0 (Seen w wr bs bm bl f n v (putAll L (xs.take k)))) (fun u _ => xs.length - (intOf u).toNat)
 case atStart => exact ⟨0, _, _, _, Nat.zero_le _, rfl, HS0⟩
 case round =>
  obtain ⟨k, f, n, v, hk, rfl, HR⟩ := hrel
  by_cases hlt : k < xs.length
  ·obtain ⟨ad, e0, hx⟩ := Kd.at_string (HC.out _ HR.out.below) (k : Int) (by omega) (by omega)
   have hget : rdOf ByteArray.empty xs (k : Int) = xs[k] := by simp [rdOf, hlt]
   cases e0
   simp only [hget, Int.toNat_natCast] at hx
   have hq := HOK.out xs[k] (List.getElem_mem hlt)
   have hmem : xs[k] ∈ xs := List.getElem_mem hlt
   have htk : xs.take (k + 1) = xs.take k ++ [xs[k]] := List.take_succ_eq_append_getElem hlt
   obtain ⟨x, hxx⟩ : ∃ x, x = xs[k] := ⟨_, rfl⟩
   rw [← hxx] at hx hq hmem htk
   have HQ := jA hq
   have HMEM := jA hmem
   have HTK := jA htk
   clear hq hxx hget hmem htk
   have c0' : (k : Int) < xs.length := by omega
   have hsv : wr.cell? ⟨bs, 0, none⟩ = some (.map (some bm)) := by rw [cell_of_row _ _ _ _ _ _ HR.out.svar]; rfl
   have hlk := HR.out.map.lookup str_key Tryz.underlying220 (z243 wr) HQ.out true
   have hz := z243 wr
   have hu := Tryz.underlying243
   obtain ⟨L1, hL1⟩ : ∃ L1, L1 = putAll L (xs.take k) := ⟨_, rfl⟩
   rw [← hL1] at HR
   have hput : putAll L (xs.take (k + 1)) = put1 L1 x := by rw [HTK.out, putAll_snoc, ← hL1]
   have HPUT := jA hput
   have hlen : L1.length ≤ U.length := by
    subst hL1
    refine nodup_le _ _ (nodup_putAll _ HL.out) fun s hs => HU.out s ?_
    rcases (mem_putAll _ _ _).1 hs with h | h
    ·exact .inl h
    ·exact .inr (List.mem_of_mem_take h)
   have hlim : (L1.length + 1) * 16 ≤ 140737488355328 := by have := HLIM.out; omega
   have HLEN := jA hlim
   clear hput hL1 hlen hlim
   cases hfx : f x with
   | some u =>
    have hin : x ∈ L1 := (HR.out.has x).1 (by rw [hfx]; rfl)
    simp only [hfx, if_true, Option.map_some, Option.getD_some, Option.isSome_some] at hlk
    go_wp2
    go_roundw
    case rel => exact ⟨k + 1, f, n, v, by omega, by go_num, ⟨by rw [HPUT.out, put1, if_pos hin]; exact HR.out.move (below_alloc (Below.refl _ _) _)⟩⟩
    case measure => simp [intOf]; omega
   | none =>
    have hin : x ∉ L1 := fun h => by have := (HR.out.has x).2 h; rw [hfx] at this; cases this
    simp only [hfx, if_true, Option.map_none, Option.getD_none, Option.isSome_none] at hlk
    go_upto_region 5 with fail
    have HW := HR.out.move (below_alloc (Below.refl _ _) (.cells #[] 243))
    obtain ⟨W2, hW2⟩ : ∃ W2, W2 = wr.alloc (.cells #[] 243) := ⟨_, rfl⟩
    rw [← hW2] at HW ⊢
    clear hW2 hlk hz hu hsv HR
    have hsv : W2.cell? ⟨bs, 0, none⟩ = some (.map (some bm)) := by rw [cell_of_row _ _ _ _ _ _ HW.svar]; rfl
    obtain ⟨w4, hrun, hM4, hg4⟩ := HW.map.update str_key Tryz.underlying220 HQ.out ()
    have Zd : (Instr.mapUpdate 220 (.map (some bm)) (.string x) (.agg #[])).run Tryz.prog W2 = .ok () w4 := hrun
    have Za : w4.heap[bl]? = some (.cells #[v] 76 (0, 0)) := (hg4.block _ (Array.getElem?_eq_some_iff.1 HW.lvar).1 (fun e => HW.ml (Option.some.inj e).symm)).trans HW.lvar
    have hlv : w4.cell? ⟨bl, 0, none⟩ = some v := by rw [cell_of_row _ _ _ _ _ _ Za]; rfl
    have hR4 := Kd.R_grown HW.row hg4 (fun k hk e => hk.2.1 (Option.some.inj e))
    have hB4 := HW.below.grown hg4 HW.below.size (fun k hk => by cases hk; exact HW.gm)
    have Zb : w4.heap[bs]? = some (.cells #[.map (some bm)] 220 (0, 0)) := (hg4.block _ (Array.getElem?_eq_some_iff.1 HW.svar).1 (fun e => HW.sm (Option.some.inj e))).trans HW.svar
    have hfresh : ∀ k, w4.heap.size ≤ k → (k ≠ bs ∧ k ≠ bm ∧ k ≠ bl) := fun k hk => by
     have h1 := (Array.getElem?_eq_some_iff.1 Zb).1
     have h2 := (Array.getElem?_eq_some_iff.1 Za).1
     have h3 := hM4.lt
     omega
    have HR4 := jA hR4
    have HB4 := jA hB4
    have HF := jA hfresh
    have HM4 := jA hM4
    have HS4 := jA Zb
    have HL4 := jA Za
    have HW2 := jA HW
    clear hR4 hB4 hfresh hM4 Zb Za HW hrun
    go_wp2_with (first | ((with_reducible refine gate_builtin (b := .append) (xs := #[.tmp 25, .tmp 27]) rfl ?_); at_builtin; refine Kd.R_append Kd.string (w0 := w) w.heap.size rfl (.tmp 25) (.tmp 27) 76 9 (.string ⟨#[]⟩) 16 rfl Tryz.underlying76 info9 rfl (by decide) (by decide) v L1 x [.string x] (fun k => k ≠ bs ∧ k ≠ bm ∧ k ≠ bl) (fun _ => False) rfl rfl rfl (fun _ hk => hk.elim) HF.out HR4.out HB4.out HB4.out.size HLEN.out ?_; intro v8 w8 hR8 hB8 hg8 Zc; obtain ⟨A8, c8, rfl⟩ := Kd.R_slice hR8; have hl8 : w8.heap[bl]? = some (.cells #[v] 76 (0, 0)) := (hg8.block _ (Array.getElem?_eq_some_iff.1 HL4.out).1 (fun e => (HR4.out.1 _ e.symm).2.2 rfl)).trans HL4.out; have Ze : w8.cell? ⟨bl, 0, none⟩ = some v := (cell_of_row _ _ _ _ _ _ hl8).trans rfl; have Zf : w8.frozen? ⟨bl, 0, none⟩ = false := frozen_of_row hl8 0; have HR8 := jA hR8; have HB8 := jA hB8; have HG8 := jA hg8; have HL8 := jA hl8; clear hR8 hB8 hg8 Zc hl8))
    go_roundw
    case rel =>
     have hn := seen_put HW2.out HM4.out HS4.out HL8.out HR8.out HB8.out HG8.out HR4.out
     have e : putAll L (xs.take (k + 1)) = L1 ++ [x] := by rw [HPUT.out, put1, if_neg hin]
     rw [List.length_append, List.length_singleton, ← e] at hn
     exact ⟨k + 1, _, _, _, by omega, by go_num, ⟨hn⟩⟩
    case measure => simp [intOf]; omega
  ·have hkk : k = xs.length := by omega
   subst hkk
   have hfin := HR.out
   rw [List.take_length] at hfin
   go_wp2
   go_end0
   exact ⟨rfl, _, _, _, hfin⟩
end Go.Proofs.YtdgkppldopiaoaaGreat.MPut
/- A memory (cells.Memory): its words, its trace, the count of bad accesses; what look, Note, Load, Store do. -/
namespace Go.Proofs.YtdgkppldopiaoaaGreat.RMem
open Go.RowKit YtdgkppldopiaoaaGreatW.PrintWords YtdgkppldopiaoaaGreatW.PrintLast YtdgkppldopiaoaaGreatW.PrintMore BMap BRow MLines MPut Go.Maps
open PG
abbrev Ext (w w' : World) : Prop := w'.os = w.os ∧ w'.tape = w.tape ∧ w'.output = w.output
theorem Ext.trans {w w1 w2 : World} (h : Ext w w1) (h2 : Ext w1 w2) : Ext w w2 := ⟨h2.1.trans h.1, h2.2.1.trans h.2.1, h2.2.2.trans h.2.2⟩
structure Still (w w' : World) : Prop where
 heap : w'.heap = w.heap
 ext : Ext w w'
theorem Still.trans {w w1 w2 : World} (h : Still w w1) (h2 : Still w1 w2) : Still w w2 := ⟨h2.heap.trans h.heap, Ext.trans h.ext h2.ext⟩
structure Keep (F : Nat → Prop) (w w' : World) : Prop where
 size : w.heap.size ≤ w'.heap.size
 at_ : ∀ k, k < w.heap.size → F k → w'.heap[k]? = w.heap[k]?
 ext : Ext w w'
namespace Keep
variable {F : Nat → Prop} {w w1 w2 : World}
theorem refl (F : Nat → Prop) (w : World) : Keep F w w := ⟨Nat.le_refl _, fun _ _ _ => rfl, rfl, rfl, rfl⟩
theorem trans (h : Keep F w w1) (h2 : Keep F w1 w2) : Keep F w w2 := ⟨Nat.le_trans h.size h2.size, fun k hk hF => (h2.at_ k (Nat.lt_of_lt_of_le hk h.size) hF).trans (h.at_ k hk hF), Ext.trans h.ext h2.ext⟩
theorem below (h : Keep F w w1) (hb : Below w1.heap.size w1 w2) : Keep F w w2 := h.trans ⟨hb.size, fun k hk _ => hb.block k hk, hb.os, hb.tape, hb.output⟩
theorem grown (h : Keep F w w1) {row : Option Nat} (hg : w1.grownBy w2 row) (hr : ∀ k, F k → some k ≠ row) : Keep F w w2 := h.trans ⟨hg.size, fun k hk hF => hg.block k hk (hr k hF), hg.os, hg.tape, hg.output⟩
theorem setCell (h : Keep F w w1) {p : Addr} (hp : ¬ F p.block) (u : Value) : Keep F w (w1.setCell p u) :=
 h.trans ⟨by simp [World.setCell], fun k hk hF => Below.heap_setCell _ _ _ _ (fun e => hp (e ▸ hF)), rfl, rfl, rfl⟩
end Keep
abbrev memV (bw n : Nat) (tv : Value) (bad : Int) : Array Value := #[.slice (some ⟨bw, 0, none⟩) n n, tv, .int .i64 bad]
abbrev wordsV (ws : List Int) : Array Value := (ws.map (Value.int .i64)).toArray
structure Mem (F : Nat → Prop) (w : World) (bm bw : Nat) (ws : List Int) (tr : List S115) (bad : Int) (tv : Value) : Prop where
 mem : w.heap[bm]? = some (.cells (memV bw ws.length tv bad) 118 (0, 0))
 words : w.heap[bw]? = some (.cells (wordsV ws) 3 (0, 0))
 row : Kd.R k115 115 w 0 (fun k => k ≠ bm ∧ k ≠ bw ∧ ¬ F k) tv tr
 ne : bm ≠ bw
 fm : ¬ F bm
 fw : ¬ F bw
 lt : ∀ k, F k → k < w.heap.size
 small : ws.length ≤ 65536
namespace Mem
variable {F : Nat → Prop} {w w1 : World} {bm bw : Nat} {ws : List Int} {tr : List S115} {bad : Int} {tv : Value}
theorem below (h : Mem F w bm bw ws tr bad tv) (hb : Below w.heap.size w w1) : Mem F w1 bm bw ws tr bad tv :=
 { h with mem := (hb.block _ (Array.getElem?_eq_some_iff.1 h.mem).1).trans h.mem, words := (hb.block _ (Array.getElem?_eq_some_iff.1 h.words).1).trans h.words, row := Kd.R_below h.row hb, lt := fun k hk => Nat.lt_of_lt_of_le (h.lt k hk) hb.size }
theorem ltm (h : Mem F w bm bw ws tr bad tv) : bm < w.heap.size := (Array.getElem?_eq_some_iff.1 h.mem).1
theorem ltw (h : Mem F w bm bw ws tr bad tv) : bw < w.heap.size := (Array.getElem?_eq_some_iff.1 h.words).1
theorem cell0 (h : Mem F w bm bw ws tr bad tv) : w.cell? ⟨bm, 0, none⟩ = some (.slice (some ⟨bw, 0, none⟩) ws.length ws.length) := by rw [cell_of_row _ _ _ _ _ _ h.mem]; rfl
theorem cell1 (h : Mem F w bm bw ws tr bad tv) : w.cell? ⟨bm, 1, none⟩ = some tv := by rw [cell_of_row _ _ _ _ _ _ h.mem]; rfl
theorem cell2 (h : Mem F w bm bw ws tr bad tv) : w.cell? ⟨bm, 2, none⟩ = some (.int .i64 bad) := by rw [cell_of_row _ _ _ _ _ _ h.mem]; rfl
theorem cellw (h : Mem F w bm bw ws tr bad tv) (k : Nat) (hk : k < ws.length) : w.cell? ⟨bw, k, none⟩ = some (.int .i64 (ws.getD k 0)) := by
 rw [cell_of_row _ _ _ _ _ _ h.words]; simp [wordsV, hk]
theorem setBad (h : Mem F w bm bw ws tr bad tv) (b : Int) : Mem F (w.setCell ⟨bm, 2, none⟩ (.int .i64 b)) bm bw ws tr b tv :=
 { h with
  mem := by
   have := blk_set h.mem 2 (.int .i64 b)
   simpa [memV] using this
  words := (Below.heap_setCell _ _ _ _ (fun e => h.ne e.symm)).trans h.words
  row := Kd.R_far h.row (fun k hk => hk.1) _
  lt := fun k hk => by simpa [World.setCell] using h.lt k hk }
theorem ownm (h : Mem F w bm bw ws tr bad tv) : some bm ≠ tv.ownBlock := fun e => (h.row.1 _ e.symm).1 rfl
theorem ownw (h : Mem F w bm bw ws tr bad tv) : some bw ≠ tv.ownBlock := fun e => (h.row.1 _ e.symm).2.1 rfl
theorem ownF (h : Mem F w bm bw ws tr bad tv) : ∀ k, F k → some k ≠ tv.ownBlock := fun k hk e => (h.row.1 _ e.symm).2.2 hk
theorem fresh (h : Mem F w bm bw ws tr bad tv) : ∀ k, w.heap.size ≤ k → k ≠ bm ∧ k ≠ bw ∧ ¬ F k := fun k hk => by
 have h1 := h.ltm
 have h2 := h.ltw
 exact ⟨by omega, by omega, fun hF => by have := h.lt k hF; omega⟩
theorem note {x : S115} {v8 : Value} {w8 : World} (h : Mem F w bm bw ws tr bad tv) (hR : Kd.R k115 115 w8 0 (fun k => k ≠ bm ∧ k ≠ bw ∧ ¬ F k) v8 (tr ++ [x])) (hg : w.grownBy w8 tv.ownBlock) :
  Mem F (w8.setCell ⟨bm, 1, none⟩ v8) bm bw ws (tr ++ [x]) bad v8 ∧ Keep F w (w8.setCell ⟨bm, 1, none⟩ v8) := by
 have hm : w8.heap[bm]? = _ := (hg.block _ h.ltm h.ownm).trans h.mem
 have hw : w8.heap[bw]? = _ := (hg.block _ h.ltw h.ownw).trans h.words
 refine ⟨{ h with mem := ?_, words := (Below.heap_setCell _ _ _ _ (fun e => h.ne e.symm)).trans hw, row := Kd.R_far hR (fun k hk => hk.1) _, lt := fun k hk => ?_ }, ((Keep.refl F w).grown hg h.ownF).setCell h.fm _⟩
 ·have := blk_set hm 1 v8
  simpa [memV] using this
 ·have h1 := h.lt k hk
  have h2 := hg.size
  have : (w8.setCell ⟨bm, 1, none⟩ v8).heap.size = w8.heap.size := by simp [World.setCell]
  omega
theorem cells1 {w8 : World} (h : Mem F w bm bw ws tr bad tv) (hg : w.grownBy w8 tv.ownBlock) : w8.cell? ⟨bm, 1, none⟩ = some tv ∧ w8.frozen? ⟨bm, 1, none⟩ = false := by
 have hm : w8.heap[bm]? = _ := (hg.block _ h.ltm h.ownm).trans h.mem
 exact ⟨by rw [cell_of_row _ _ _ _ _ _ hm]; rfl, MPut.frozen_of_row hm 1⟩
theorem setWord (h : Mem F w bm bw ws tr bad tv) (k : Nat) (hk : k < ws.length) (v : Int) : Mem F (w.setCell ⟨bw, k, none⟩ (.int .i64 v)) bm bw (ws.set k v) tr bad tv :=
 { h with
  mem := (Below.heap_setCell _ _ _ _ h.ne).trans (by rw [List.length_set]; exact h.mem)
  words := by
   have := blk_set h.words k (.int .i64 v)
   simpa [wordsV, List.map_set] using this
  row := Kd.R_far h.row (fun k hk => hk.2.1) _
  lt := fun k hk => by simpa [World.setCell] using h.lt k hk
  small := by rw [List.length_set]; exact h.small }
theorem frozenw (h : Mem F w bm bw ws tr bad tv) (k : Nat) : w.frozen? ⟨bw, k, none⟩ = false := MPut.frozen_of_row h.words k
end Mem
abbrev accV (x : S115) : Array Value := #[.int .i8 x.f0, .int .i64 x.f1, .int .i64 x.f2, .int .i64 x.f3, .bool x.f4]
end Go.Proofs.YtdgkppldopiaoaaGreat.RMem
/- cells.Memory's look, Note, Load, Store, walked. -/
namespace Go.Proofs.YtdgkppldopiaoaaGreat.RCells
open Go.RowKit YtdgkppldopiaoaaGreatW.PrintWords YtdgkppldopiaoaaGreatW.PrintLast YtdgkppldopiaoaaGreatW.PrintMore BMap BRow MLines MPut RMem Go.Maps
open PG
abbrev poison : Int := -4611686018427387904
def lkV (ws : List Int) (a : Int) : Int := if a < 0 ∨ (ws.length : Int) ≤ a then 0 else ws.getD a.toNat 0
def lkE (ws : List Int) (a : Int) : Int := if a < 0 ∨ (ws.length : Int) ≤ a then 140 else if ws.getD a.toNat 0 = poison then 141 else 0
def lkB (ws : List Int) (a bad : Int) : Int := if lkE ws a = 0 then bad else wrap64 (bad + 1)
theorem look_calls (F : Nat → Prop) (w : World) (bm bw : Nat) (ws : List Int) (tr : List S115) (bad : Int) (tv : Value) (a : Int) (hM : Mem F w bm bw ws tr bad tv) :
  Calls Tryz.prog 41 #[.pointer (some ⟨bm, 0, none⟩), .int .i64 a] w fun e w' => e = .returned (.tuple #[.int .i64 (lkV ws a), .int .i64 (lkE ws a)]) ∧ Mem F w' bm bw ws tr (lkB ws a bad) tv ∧ Keep F w w' := by
 have hc0 := hM.cell0
 have hc2 := hM.cell2
 have hf2 := MPut.frozen_of_row hM.mem 2
 have hlen := hM.small
 have HM := jA hM
 by_cases h0 : a < 0
 ·have eV : lkV ws a = 0 := by simp [lkV, h0]
  have eE : lkE ws a = 140 := by simp [lkE, h0]
  have eB : lkB ws a bad = wrap64 (bad + 1) := by simp [lkB, eE]
  rw [eV, eE, eB]
  clear hM eV eE eB
  go_enter Tryz.func41, Tryz.ntmps41
  go_wp2
  go_ret2
  exact ⟨rfl, HM.out.setBad _, (Keep.refl F w).setCell HM.out.fm _⟩
 ·obtain ⟨k, rfl⟩ : ∃ k : Nat, a = k := ⟨a.toNat, by omega⟩
  by_cases h1 : (k : Int) < ws.length
  ·have hx := hM.cellw k (by omega)
   obtain ⟨v, hv⟩ : ∃ v, v = ws.getD k 0 := ⟨_, rfl⟩
   have eV : lkV ws k = v := by rw [lkV, if_neg (by omega)]; simp [hv]
   rw [← hv] at hx
   have hE : lkE ws k = if v = poison then 141 else 0 := by rw [lkE, if_neg (by omega)]; simp [hv]
   clear hv
   by_cases h2 : v = (-4611686018427387904 : Int)
   ·have eE : lkE ws k = 141 := by rw [hE, if_pos h2]
    have eB : lkB ws k bad = wrap64 (bad + 1) := by simp [lkB, eE]
    rw [eV, eE, eB]
    subst h2
    clear hM eV eE eB hE
    go_enter Tryz.func41, Tryz.ntmps41
    go_wp2
    go_ret2
    exact ⟨rfl, HM.out.setBad _, (Keep.refl F w).setCell HM.out.fm _⟩
   ·have eE : lkE ws k = 0 := by rw [hE, if_neg h2]
    have eB : lkB ws k bad = bad := by simp [lkB, eE]
    rw [eV, eE, eB]
    clear hM eV eE eB hE
    go_enter Tryz.func41, Tryz.ntmps41
    go_wp2
    go_ret2
    exact ⟨rfl, HM.out, Keep.refl F w⟩
  ·have eV : lkV ws k = 0 := by rw [lkV, if_pos (by omega)]
   have eE : lkE ws k = 140 := by rw [lkE, if_pos (by omega)]
   have eB : lkB ws k bad = wrap64 (bad + 1) := by simp [lkB, eE]
   rw [eV, eE, eB]
   clear hM eV eE eB
   go_enter Tryz.func41, Tryz.ntmps41
   go_wp2
   go_ret2
   exact ⟨rfl, HM.out.setBad _, (Keep.refl F w).setCell HM.out.fm _⟩
theorem info115 : (Tryz.prog.info? 115).map (fun i => (i.zero, i.size, i.bytes)) = some (some (.agg #[(.int .i8 0), (.int .i64 0), (.int .i64 0), (.int .i64 0), (.bool false)]), 5, 40) := by kernel_rfl
theorem i121 : (Tryz.prog.info? 115).map (·.size) = some 5 := by kernel_rfl
theorem store_var {W : World} {base : Nat} {ok : Nat → Prop} {v old : Value} {l : List S115} {a : Addr} (hR : Kd.R k115 115 W base ok v l) (hc : W.cell? a = some old) (hf : W.frozen? a = false) :
  (Instr.storeAt 53 (.pointer (some a)) v).run Tryz.prog W = .ok () (W.setCell a v) := by
 obtain ⟨A, c, rfl⟩ := Kd.R_slice hR
 have hu := Tryz.underlying53
 simp [Instr.storeAt, Instr.sureAddr, go_sem, hc, hf, hu]
theorem note_calls (F : Nat → Prop) (w : World) (bm bw : Nat) (ws : List Int) (tr : List S115) (bad : Int) (tv : Value) (x : S115) (hM : Mem F w bm bw ws tr bad tv) (hl : tr.length ≤ 1000000000000) :
  Calls Tryz.prog 42 #[.pointer (some ⟨bm, 0, none⟩), .agg (accV x)] w fun e w' => e = .returned (.tuple #[]) ∧ ∃ tv', Mem F w' bm bw ws (tr ++ [x]) bad tv' ∧ Keep F w w' := by
 have HM := jA hM
 have HLIM := jA (show (tr.length + 1) * 40 ≤ 140737488355328 by omega)
 clear hM hl
 go_enter Tryz.func42, Tryz.ntmps42
 go_upto_region 1 with fail
 have hM2 := HM.out.below (below_drew (below_alloc (Below.refl _ _) (.cells (accV x) 115)))
 have hS2 : (w.alloc (.cells (accV x) 115)).drew.heap[w.heap.size]? = some (.cells (accV x) 115 (0, 0)) := heap_alloc_new w _
 have hK2 : Keep F w (w.alloc (.cells (accV x) 115)).drew := (Keep.refl F w).below (below_drew (below_alloc (Below.refl _ _) _))
 obtain ⟨W2, hW2⟩ : ∃ W2, W2 = (w.alloc (.cells (accV x) 115)).drew := ⟨_, rfl⟩
 obtain ⟨g8, hg8⟩ : ∃ g8, g8 = w.heap.size := ⟨_, rfl⟩
 rw [← hW2, ← hg8] at hS2
 rw [← hW2] at hM2 hK2
 rw [← hg8]
 have hc1 := hM2.cell1
 have HM2 := jA hM2
 have HS2 := jA hS2
 have HK2 := jA hK2
 have hne : some g8 ≠ tv.ownBlock := fun e => by have := Kd.R_lt HM.out.row _ e.symm; omega
 clear hM2 hS2 hK2
 have HNE := jA hne
 clear hne
 refine start_ (n := 11) (S := fun w' => w'.cell? ⟨bm, 1, none⟩ = some tv ∧ w'.heap[g8]? = some (.cells (accV x) 115 (0, 0))) (ds := [10]) (Jb 11 0) (by kernel_rfl) rfl (by kernel_rfl) (by rw [← hW2]; exact ⟨hc1, HS2.out⟩) (fun hHeld => ?_)
 rw [← hW2] at hHeld ⊢
 clear hW2 hg8
 refine Jp 0 4 (Jb 11 1) rfl rfl ?_
 refine Jp 1 5 (Jb 11 3) rfl rfl ?_
 refine Jp 2 6 (Jb 11 7) rfl rfl ?_
 refine Jp 3 7 (Jb 11 15) rfl rfl ?_
 refine Jk 4 8 (Jb 11 31) rfl rfl hHeld (.inl ⟨by rfl, by rintro w' ⟨s0, s1⟩; go_simp; with_reducible rfl⟩) ?_
 refine take_ (i := 5) (N := some 9) (v := ?_) (a' := ?_) (Jb 11 63) rfl rfl (by kernel_rfl) (fun _ _ _ h => h) (Or.inl ⟨by rfl, ?_⟩) hHeld ?_ ?_
 rotate_left
 ·rintro w' ⟨s0, s1⟩
  have hl := run_loadVar_row (P := Tryz.prog) w' g8 115 115 (accV x) (0, 0) _ s1 Tryz.underlying115 rfl i121
  simp only [execOp, Act.eval, Instr.loadAt, Instr.sureAddr]
  simp
  rw [hl]
  rfl
 rotate_left
 ·simp only [Act.put, Jq, Jr, Js]
  rfl
 refine one_ (i := 6) (N := some 10) (Jb 11 127) rfl rfl (by kernel_rfl) (by decide) (fun K hK => ?_)
 refine GDiffer.step_run rfl rfl (w' := W2.alloc (.cells (accV x) 115)) (v := .slice (some ⟨W2.heap.size, 0, none⟩) 1 1) (by go_simp) ?_
 refine hK.out _ _ ⟨?_, ?_⟩ (fun hHeld => ?_)
 ·exact pw_cell_below (below_alloc (Below.refl _ _) _) hc1
 ·exact (below_alloc (Below.refl _ _) _).block _ (Array.getElem?_eq_some_iff.1 HS2.out).1 |>.trans HS2.out
 clear hK K
 refine norm_ (a' := ?_) ?_ ?_; rotate_left; (show Act.put _ (some 10) _ = _; simp only [Act.put, Jq, Jr, Js]; rfl)
 refine one_ (i := 7) (N := some 11) (Jb 11 255) rfl rfl (by kernel_rfl) (by decide) (fun K hK => ?_)
 refine Kd.R_append_step k115 (w0 := W2) 0 rfl (.tmp 8) (.tmp 10) 53 115 (.agg #[(.int .i8 0), (.int .i64 0), (.int .i64 0), (.int .i64 0), (.bool false)]) 40 rfl Tryz.underlying53 info115 rfl (by decide) (by decide) tv tr x [.int .i8 x.f0, .int .i64 x.f1, .int .i64 x.f2, .int .i64 x.f3, .bool x.f4] (fun k => k ≠ bm ∧ k ≠ bw ∧ ¬ F k) (fun _ => False) rfl rfl (k115_mkM _ _ _ x) (fun _ hk => hk.elim) HM2.out.fresh HM2.out.row (Below.refl _ _) (Nat.zero_le _) HLIM.out (fun v8 w8 hR8 hB8 hg8 hat8 => ?_)
 have HN8 := jA (HM2.out.note hR8 hg8)
 have hc8 := (HM2.out.cells1 hg8).1
 have hf8 := (HM2.out.cells1 hg8).2
 refine hK.out _ _ ⟨hc8, (hg8.block _ (Array.getElem?_eq_some_iff.1 HS2.out).1 HNE.out).trans HS2.out⟩ (fun hHeld => ?_)
 clear hK K
 refine norm_ (a' := ?_) ?_ ?_; rotate_left; (show Act.put _ (some 11) _ = _; simp only [Act.put, Jq, Jr, Js]; rfl)
 refine Jp 8 12 (Jb 11 511) rfl rfl ?_
 refine Jp 9 13 (Jb 11 1023) rfl rfl ?_
 refine last_ (i := 10) (N := none) (Jb 11 2047) rfl rfl (by kernel_rfl) (by decide) (fun K hK => ?_)
 have hst : (Instr.storeAt 53 (.pointer (some ⟨bm, 1, none⟩)) v8).run Tryz.prog w8 = .ok () (w8.setCell ⟨bm, 1, none⟩ v8) := store_var hR8 hc8 hf8
 refine GDiffer.step_skip (w' := w8.setCell ⟨bm, 1, none⟩ v8) rfl rfl (by simp [execOp, Act.eval, hst]) ?_
 refine hK.out _ _ ?_
 clear hK K
 refine done_ (by kernel_rfl) ?_
 clear hR8 hB8 hg8 hat8 hst
 go_wp2
 go_end0
 exact ⟨rfl, _, HN8.out.1, HK2.out.trans HN8.out.2⟩
structure Did (F : Nat → Prop) (w w' : World) (bm bw : Nat) (ws : List Int) (tr : List S115) (bad : Int) : Prop where
 mem : ∃ tv, Mem F w' bm bw ws tr bad tv
 keep : Keep F w w'
abbrev accL (ws : List Int) (a : Int) : S115 := ⟨1, a, lkV ws a, 0, lkE ws a == 0⟩
theorem load_calls (F : Nat → Prop) (w : World) (bm bw : Nat) (ws : List Int) (tr : List S115) (bad : Int) (tv : Value) (a : Int) (hM : Mem F w bm bw ws tr bad tv) (hl : tr.length ≤ 1000000000000) :
  Calls Tryz.prog 101 #[.pointer (some ⟨bm, 0, none⟩), .int .i64 a] w fun e w' => e = .returned (.tuple #[.int .i64 (lkV ws a), .int .i64 (lkE ws a)]) ∧ Did F w w' bm bw ws (tr ++ [accL ws a]) (lkB ws a bad) := by
 have HM := jA hM
 have HLIM := jA hl
 clear hM hl
 obtain ⟨v, hv⟩ : ∃ v, v = lkV ws a := ⟨_, rfl⟩
 obtain ⟨E, hE⟩ : ∃ E, E = lkE ws a := ⟨_, rfl⟩
 obtain ⟨b, hb⟩ : ∃ b, b = lkB ws a bad := ⟨_, rfl⟩
 have HQ := jA (look_calls F w bm bw ws tr bad tv a HM.out)
 have hacc : accL ws a = ⟨1, a, v, 0, E == 0⟩ := by rw [hv, hE]
 rw [hacc, ← hv, ← hE, ← hb]
 rw [← hv, ← hE, ← hb] at HQ
 clear hv hE hb hacc
 go_enter Tryz.func101, Tryz.ntmps101
 go_wp2_with (first | (go_at_call 41; (refine HQ.out.mono ?_); rintro e w1 ⟨rfl, hM1, hK1⟩; have HM1 := jA hM1; have HK1 := jA hK1; clear hM1 hK1) | (go_at_call 42; (refine (note_calls F _ bm bw ws tr b tv ⟨1, a, v, 0, E == 0⟩ HM1.out HLIM.out).mono ?_); rintro e w2 ⟨rfl, tv2, hM2, hK2⟩; have HM2 := jA hM2; have HK2 := jA hK2; clear hM2 hK2))
 go_ret2
 exact ⟨rfl, ⟨_, HM2.out⟩, HK1.out.trans HK2.out⟩
def stW (ws : List Int) (a v : Int) : List Int := if lkE ws a = 0 then ws.set a.toNat v else ws
abbrev accS (ws : List Int) (a v : Int) : S115 := ⟨2, a, v, lkV ws a, lkE ws a == 0⟩
theorem lkE_in {ws : List Int} {a : Int} (h : lkE ws a = 0) : ∃ k : Nat, a = k ∧ k < ws.length := by
 unfold lkE at h
 split at h
 ·cases h
 ·exact ⟨a.toNat, by omega, by omega⟩
theorem store_calls (F : Nat → Prop) (w : World) (bm bw : Nat) (ws : List Int) (tr : List S115) (bad : Int) (tv : Value) (a x : Int) (hM : Mem F w bm bw ws tr bad tv) (hl : tr.length ≤ 1000000000000) :
  Calls Tryz.prog 15 #[.pointer (some ⟨bm, 0, none⟩), .int .i64 a, .int .i64 x] w fun e w' => e = .returned (.int .i64 (lkE ws a)) ∧ Did F w w' bm bw (stW ws a x) (tr ++ [accS ws a x]) (lkB ws a bad) := by
 have HM := jA hM
 have HLIM := jA hl
 clear hM hl
 obtain ⟨v, hv⟩ : ∃ v, v = lkV ws a := ⟨_, rfl⟩
 obtain ⟨E, hE⟩ : ∃ E, E = lkE ws a := ⟨_, rfl⟩
 obtain ⟨b, hb⟩ : ∃ b, b = lkB ws a bad := ⟨_, rfl⟩
 have HQ := jA (look_calls F w bm bw ws tr bad tv a HM.out)
 have hacc : accS ws a x = ⟨2, a, x, v, E == 0⟩ := by rw [hv, hE]
 have hW : stW ws a x = if E = 0 then ws.set a.toNat x else ws := by rw [hE]; rfl
 have hin : E = 0 → ∃ k : Nat, a = k ∧ k < ws.length := fun h => lkE_in (hE ▸ h)
 rw [hacc, ← hE, ← hb, hW]
 rw [← hv, ← hE, ← hb] at HQ
 clear hv hE hb hacc hW
 by_cases h0 : E = 0
 ·obtain ⟨k, rfl, hk⟩ := hin h0
  subst h0
  have hlen := HM.out.small
  rw [if_pos rfl, show ((k : Int)).toNat = k from rfl]
  clear hin
  go_enter Tryz.func15, Tryz.ntmps15
  go_wp2_with (first | (go_at_call 41; (refine HQ.out.mono ?_); rintro e w1 ⟨rfl, hM1, hK1⟩; have hc0 := hM1.cell0; have hcw := hM1.cellw k hk; have hfw := hM1.frozenw k; have HM1 := jA (hM1.setWord k hk x); have HK1 := jA (hK1.setCell (p := ⟨bw, k, none⟩) hM1.fw (.int .i64 x)); clear hM1 hK1) | (go_at_call 42; (refine (note_calls F _ bm bw _ tr b tv ⟨2, k, x, v, true⟩ HM1.out HLIM.out).mono ?_); rintro e w2 ⟨rfl, tv2, hM2, hK2⟩; have HM2 := jA hM2; have HK2 := jA hK2; clear hM2 hK2))
  go_ret
  exact ⟨rfl, ⟨_, HM2.out⟩, HK1.out.trans HK2.out⟩
 ·rw [if_neg h0]
  have hb : (E == 0) = false := by rw [beq_eq_false_iff_ne]; exact h0
  rw [hb]
  clear hin
  go_enter Tryz.func15, Tryz.ntmps15
  go_wp2_with (first | (go_at_call 41; (refine HQ.out.mono ?_); rintro e w1 ⟨rfl, hM1, hK1⟩; have HM1 := jA hM1; have HK1 := jA hK1; clear hM1 hK1) | (go_at_call 42; (refine (note_calls F _ bm bw ws tr b tv ⟨2, a, x, v, false⟩ HM1.out HLIM.out).mono ?_); rintro e w2 ⟨rfl, tv2, hM2, hK2⟩; have HM2 := jA hM2; have HK2 := jA hK2; clear hM2 hK2))
  go_ret
  exact ⟨rfl, ⟨_, HM2.out⟩, HK1.out.trans HK2.out⟩
end Go.Proofs.YtdgkppldopiaoaaGreat.RCells
/- epoch.Slots and epoch.Section over a memory, walked. -/
namespace Go.Proofs.YtdgkppldopiaoaaGreat.REpoch
open Go.RowKit YtdgkppldopiaoaaGreatW.PrintWords YtdgkppldopiaoaaGreatW.PrintLast YtdgkppldopiaoaaGreatW.PrintMore BMap BRow MLines MPut RMem RCells Go.Maps
open PG
set_option maxHeartbeats 1000000
set_option maxRecDepth 100000
theorem _root_.Go.Proofs.YtdgkppldopiaoaaGreat.RMem.Keep.cell {F : Nat → Prop} {w w1 : World} {a : Addr} {v : Value} (h : Keep F w w1) (hc : w.cell? a = some v) (hF : F a.block) : w1.cell? a = some v := by
 have hlt : a.block < w.heap.size := by
  rcases Nat.lt_or_ge a.block w.heap.size with h | h
  ·exact h
  ·simp [World.cell?, Array.getElem?_eq_none h] at hc
 rw [World.cell?_of_block (w := w) (h.at_ _ hlt hF)]; exact hc
abbrev slotsV (bm : Nat) (ep first n : Int) : Array Value := #[.pointer (some ⟨bm, 0, none⟩), .int .i64 ep, .int .i64 first, .int .i64 n]
abbrev SlotsAt (w : World) (bs bm : Nat) (ep first n : Int) : Prop := w.heap[bs]? = some (.cells (slotsV bm ep first n) 126 (0, 0))
theorem drewMem {F : Nat → Prop} {w : World} {bm bw : Nat} {ws : List Int} {tr : List S115} {bad : Int} {tv : Value} (h : Mem F w bm bw ws tr bad tv) : Mem F w.drew bm bw ws tr bad tv := h.below (below_drew (Below.refl _ _))
theorem _root_.Go.Proofs.YtdgkppldopiaoaaGreat.RCells.Did.drew {F : Nat → Prop} {w w1 : World} {bm bw : Nat} {ws : List Int} {tr : List S115} {bad : Int} (h : Did F w.drew w1 bm bw ws tr bad) : Did F w w1 bm bw ws tr bad := ⟨h.mem, ((Keep.refl F w).below (below_drew (Below.refl _ _))).trans h.keep⟩
theorem tell_calls (F : Nat → Prop) (w : World) (bm bw bs : Nat) (ws : List Int) (tr : List S115) (bad ep first n : Int) (tv : Value) (slot v : Int) (hM : Mem F w bm bw ws tr bad tv) (hl : tr.length ≤ 1000000000000) (hS : SlotsAt w bs bm ep first n) (hF : F bs) :
  Calls Tryz.prog 102 #[.pointer (some ⟨bs, 0, none⟩), .int .i64 slot, .int .i64 v] w fun e w' => e = .returned (.int .i64 (lkE ws (wrap64 (first + slot)))) ∧
   Did F w w' bm bw (stW ws (wrap64 (first + slot)) v) (tr ++ [accS ws (wrap64 (first + slot)) v]) (lkB ws (wrap64 (first + slot)) bad) := by
 have hc0 : w.cell? ⟨bs, 0, none⟩ = some (.pointer (some ⟨bm, 0, none⟩)) := by rw [cell_of_row _ _ _ _ _ _ hS]; rfl
 have hc2 : w.cell? ⟨bs, 2, none⟩ = some (.int .i64 first) := by rw [cell_of_row _ _ _ _ _ _ hS]; rfl
 rw [← i64_w]
 have HQ := jA (store_calls F w.drew bm bw ws tr bad tv (IntKind.i64.wrap (first + slot)) v (drewMem hM) hl)
 clear hM hl hS
 go_enter Tryz.func102, Tryz.ntmps102
 go_upto_region 1 with fail
 refine start_ (n := 13) (S := fun w' => w'.cell? ⟨bs, 0, none⟩ = some (.pointer (some ⟨bm, 0, none⟩)) ∧ w'.cell? ⟨bs, 2, none⟩ = some (.int .i64 first)) (ds := []) (Jb 13 0) (by kernel_rfl) rfl (by kernel_rfl) ⟨hc0, hc2⟩ (fun hHeld => ?_)
 refine Jp 0 7 (Jb 13 1) rfl rfl ?_
 refine Jp 1 8 (Jb 13 3) rfl rfl ?_
 refine Jp 2 9 (Jb 13 7) rfl rfl ?_
 refine Jk 3 10 (Jb 13 15) rfl rfl hHeld (.inl ⟨by rfl, by rintro w' ⟨s0, s1⟩; go_simp; with_reducible rfl⟩) ?_
 refine Jp 4 11 (Jb 13 31) rfl rfl ?_
 refine Jp 5 12 (Jb 13 63) rfl rfl ?_
 refine Jp 6 13 (Jb 13 127) rfl rfl ?_
 refine Jk 7 14 (Jb 13 255) rfl rfl hHeld (.inl ⟨by rfl, by rintro w' ⟨s0, s1⟩; go_simp; with_reducible rfl⟩) ?_
 refine Jp 8 15 (Jb 13 511) rfl rfl ?_
 refine Jp 9 16 (Jb 13 1023) rfl rfl ?_
 refine Jp 10 17 (Jb 13 2047) rfl rfl ?_
 refine one_ (i := 11) (N := some 18) (Jb 13 4095) rfl rfl (by kernel_rfl) (by decide) (fun K hK => ?_)
 refine goes_ Tryz.func15 (by kernel_rfl) rfl #[.pointer (some ⟨bm, 0, none⟩), .int .i64 (IntKind.i64.wrap (first + slot)), .int .i64 v] (by rfl) rfl rfl (by (try simp only [List.map_toArray, List.map_cons, List.map_nil]); first | done | rfl) ?_
 refine HQ.out.mono ?_
 rintro e w1 ⟨rfl, hD⟩
 refine ⟨_, rfl, ?_⟩
 have HD := jA hD
 refine hK.out _ _ ⟨RMem.Keep.cell hD.keep hc0 hF, RMem.Keep.cell hD.keep hc2 hF⟩ (fun hHeld => ?_)
 clear hK K hD
 refine norm_ (a' := ?_) ?_ ?_; rotate_left; (show Act.put _ (some 18) _ = _; simp only [Act.put, Jq, Jr, Js]; rfl)
 refine Jp 12 6 (Jb 13 8191) rfl rfl ?_
 refine done_ (by kernel_rfl) ?_
 go_wp2
 go_ret
 exact ⟨rfl, RCells.Did.drew HD.out⟩
theorem leave_calls (F : Nat → Prop) (w : World) (bm bw bs : Nat) (ws : List Int) (tr : List S115) (bad ep first n : Int) (tv : Value) (slot : Int) (hM : Mem F w bm bw ws tr bad tv) (hl : tr.length ≤ 1000000000000) (hS : SlotsAt w bs bm ep first n) (hF : F bs) (h0 : 0 ≤ slot) (h1 : slot < n) :
  Calls Tryz.prog 117 #[.pointer (some ⟨bs, 0, none⟩), .int .i64 slot] w fun e w' => e = .returned (.int .i64 (lkE ws (wrap64 (first + slot)))) ∧
   Did F w w' bm bw (stW ws (wrap64 (first + slot)) 0) (tr ++ [accS ws (wrap64 (first + slot)) 0]) (lkB ws (wrap64 (first + slot)) bad) := by
 have hc3 : w.cell? ⟨bs, 3, none⟩ = some (.int .i64 n) := by rw [cell_of_row _ _ _ _ _ _ hS]; rfl
 have HQ := jA (tell_calls F w bm bw bs ws tr bad ep first n tv slot 0 hM hl hS hF)
 clear hM hl hS
 go_enter Tryz.func117, Tryz.ntmps117
 go_wp2_with (first | (go_at_call 102; (refine HQ.out.mono ?_); rintro e w1 ⟨rfl, hD⟩; have HD := jA hD; clear hD))
 go_ret
 exact ⟨rfl, HD.out⟩
abbrev secV (bs : Nat) (slot steps seen : Int) : Array Value := #[.pointer (some ⟨bs, 0, none⟩), .int .i64 slot, .int .i64 steps, .int .i64 seen]
abbrev SecAt (w : World) (bx bs : Nat) (slot steps seen : Int) : Prop := w.heap[bx]? = some (.cells (secV bs slot steps seen) 194 (0, 0))
theorem enter_calls (w : World) (bm bs : Nat) (ep first n : Int) (slot : Int) (hS : SlotsAt w bs bm ep first n) (h0 : 0 ≤ slot) (h1 : slot < n) :
  Calls Tryz.prog 59 #[.pointer (some ⟨bs, 0, none⟩), .int .i64 slot] w fun e w' => e = .returned (.tuple #[.pointer (some ⟨w.heap.size, 0, none⟩), .int .i64 0]) ∧ SecAt w' w.heap.size bs slot 0 0 ∧ Below w.heap.size w w' := by
 have hc3 : w.cell? ⟨bs, 3, none⟩ = some (.int .i64 n) := by rw [cell_of_row _ _ _ _ _ _ hS]; rfl
 clear hS
 go_enter Tryz.func59, Tryz.ntmps59
 go_wp2
 go_ret2
 exact ⟨rfl, heap_alloc_new w _, below_alloc (Below.refl _ _) _⟩
theorem _root_.Go.Proofs.YtdgkppldopiaoaaGreat.RMem.Mem.far {F : Nat → Prop} {w : World} {bm bw : Nat} {ws : List Int} {tr : List S115} {bad : Int} {tv : Value} (h : Mem F w bm bw ws tr bad tv) {p : Addr} (hp : F p.block) (u : Value) : Mem F (w.setCell p u) bm bw ws tr bad tv :=
 { h with mem := (Below.heap_setCell w p u bm (fun e => h.fm (by rw [e]; exact hp))).trans h.mem, words := (Below.heap_setCell w p u bw (fun e => h.fw (by rw [e]; exact hp))).trans h.words, row := Kd.R_far h.row (fun k hk e => hk.2.2 (by rw [e]; exact hp)) _, lt := fun k hk => by simpa [World.setCell] using h.lt k hk }
theorem store_int {W : World} {v : Int} {old : Value} {a : Addr} (hc : W.cell? a = some old) (hf : W.frozen? a = false) :
  (Instr.storeAt 3 (.pointer (some a)) (.int .i64 v)).run Tryz.prog W = .ok () (W.setCell a (.int .i64 v)) := by
 have hu := Tryz.underlying3
 simp [Instr.storeAt, Instr.sureAddr, go_sem, hc, hf, hu]
abbrev Out (F : Nat → Prop) (b : Nat) : Nat → Prop := fun k => F k ∧ k ≠ b
theorem _root_.Go.Proofs.YtdgkppldopiaoaaGreat.RMem.Keep.less {F G : Nat → Prop} {w w1 : World} (h : Keep F w w1) (hg : ∀ k, G k → F k) : Keep G w w1 := ⟨h.size, fun k hk hG => h.at_ k hk (hg k hG), h.ext⟩
theorem cellOf {w : World} {g : Nat} {cs : Array Value} {t : TypeId} (h : w.heap[g]? = some (.cells cs t (0, 0))) (i : Nat) (v : Value) (hv : cs[i]? = some v) : w.cell? ⟨g, i, none⟩ = some v := by rw [cell_of_row _ _ _ _ _ _ h]; exact hv
theorem step0_calls (F : Nat → Prop) (w : World) (bm bw bs bx : Nat) (ws : List Int) (tr : List S115) (bad ep first n : Int) (tv : Value) (slot seen : Int) (hM : Mem F w bm bw ws tr bad tv) (hl : tr.length ≤ 1000000000000) (hS : SlotsAt w bs bm ep first n) (hF : F bs) (hX : SecAt w bx bs slot 0 seen) (hFx : F bx) (hne : bs ≠ bx) :
  Calls Tryz.prog 83 #[.pointer (some ⟨bx, 0, none⟩)] w fun e w' => e = .returned (.bool false) ∧ (∃ tv', Mem F w' bm bw ws (tr ++ [accL ws ep]) (lkB ws ep bad) tv') ∧ Keep (Out F bx) w w' ∧ SecAt w' bx bs slot 1 (lkV ws ep) := by
 have hc0 := cellOf hX 0 (.pointer (some ⟨bs, 0, none⟩)) rfl
 have hc2 := cellOf hX 2 (.int .i64 0) rfl
 have hd0 := cellOf hS 0 (.pointer (some ⟨bm, 0, none⟩)) rfl
 have hd1 := cellOf hS 1 (.int .i64 ep) rfl
 have HQ := jA (load_calls F w.drew bm bw ws tr bad tv ep (drewMem hM) hl)
 have HX := jA hX
 obtain ⟨v, hv⟩ : ∃ v, v = lkV ws ep := ⟨_, rfl⟩
 obtain ⟨E, hE⟩ : ∃ E, E = lkE ws ep := ⟨_, rfl⟩
 rw [← hv, ← hE] at HQ
 rw [← hv]
 clear hM hl hS hX hv hE
 go_enter Tryz.func83, Tryz.ntmps83
 go_upto_region 3 with fail
 refine start_ (n := 22) (S := fun w' => w'.cell? ⟨bx, 0, none⟩ = some (.pointer (some ⟨bs, 0, none⟩)) ∧ w'.cell? ⟨bs, 0, none⟩ = some (.pointer (some ⟨bm, 0, none⟩)) ∧ w'.cell? ⟨bs, 1, none⟩ = some (.int .i64 ep)) (ds := [21]) (Jb 22 0) (by kernel_rfl) rfl (by kernel_rfl) ⟨hc0, hd0, hd1⟩ (fun hHeld => ?_)
 refine Jp 0 10 (Jb 22 1) rfl rfl ?_
 refine Jp 1 11 (Jb 22 3) rfl rfl ?_
 refine Jp 2 12 (Jb 22 7) rfl rfl ?_
 refine Jp 3 13 (Jb 22 15) rfl rfl ?_
 refine Jk 4 14 (Jb 22 31) rfl rfl hHeld (.inl ⟨by rfl, by rintro w' ⟨s0, s1, s2⟩; go_simp; with_reducible rfl⟩) ?_
 refine Jp 5 15 (Jb 22 63) rfl rfl ?_
 refine Jp 6 16 (Jb 22 127) rfl rfl ?_
 refine Jk 7 17 (Jb 22 255) rfl rfl hHeld (.inl ⟨by rfl, by rintro w' ⟨s0, s1, s2⟩; go_simp; with_reducible rfl⟩) ?_
 refine Jp 8 18 (Jb 22 511) rfl rfl ?_
 refine Jp 9 19 (Jb 22 1023) rfl rfl ?_
 refine Jp 10 20 (Jb 22 2047) rfl rfl ?_
 refine Jk 11 21 (Jb 22 4095) rfl rfl hHeld (.inl ⟨by rfl, by rintro w' ⟨s0, s1, s2⟩; go_simp; with_reducible rfl⟩) ?_
 refine Jp 12 22 (Jb 22 8191) rfl rfl ?_
 refine Jp 13 23 (Jb 22 16383) rfl rfl ?_
 refine Jk 14 24 (Jb 22 32767) rfl rfl hHeld (.inl ⟨by rfl, by rintro w' ⟨s0, s1, s2⟩; go_simp; with_reducible rfl⟩) ?_
 refine one_ (i := 15) (N := some 25) (Jb 22 65535) rfl rfl (by kernel_rfl) (by decide) (fun K hK => ?_)
 refine goes_ Tryz.func101 (by kernel_rfl) rfl #[.pointer (some ⟨bm, 0, none⟩), .int .i64 ep] (by rfl) rfl rfl (by (try simp only [List.map_toArray, List.map_cons, List.map_nil]); first | done | rfl) ?_
 refine HQ.out.mono ?_
 rintro e w1 ⟨rfl, hD⟩
 refine ⟨_, rfl, ?_⟩
 have HD := jA hD
 have HX1 := jA (show SecAt w1 bx bs slot 0 seen from (hD.keep.at_ _ (Array.getElem?_eq_some_iff.1 HX.out).1 hFx).trans HX.out)
 refine hK.out _ _ ⟨RMem.Keep.cell hD.keep hc0 hFx, RMem.Keep.cell hD.keep hd0 hF, RMem.Keep.cell hD.keep hd1 hF⟩ (fun hHeld => ?_)
 clear hK K hD
 refine norm_ (a' := ?_) ?_ ?_; rotate_left; (show Act.put _ (some 25) _ = _; simp only [Act.put, Jq, Jr, Js]; rfl)
 refine Jp 16 9 (Jb 22 131071) rfl rfl ?_
 refine Jp 17 26 (Jb 22 262143) rfl rfl ?_
 refine Jp 18 27 (Jb 22 524287) rfl rfl ?_
 refine Jp 19 28 (Jb 22 1048575) rfl rfl ?_
 refine Jp 20 29 (Jb 22 2097151) rfl rfl ?_
 refine last_ (i := 21) (N := none) (Jb 22 4194303) rfl rfl (by kernel_rfl) (by decide) (fun K hK => ?_)
 refine GDiffer.step_skip (w' := w1.setCell ⟨bx, 3, none⟩ (.int .i64 v)) rfl rfl (by have hst := store_int (v := v) (cellOf HX1.out 3 _ rfl) (MPut.frozen_of_row HX1.out 3); simp [execOp, Act.eval, hst]) ?_
 refine hK.out _ _ ?_
 clear hK K
 refine done_ (by kernel_rfl) ?_
 have hS5 : SecAt (w1.setCell ⟨bx, 3, none⟩ (.int .i64 v)) bx bs slot 0 v := by have := blk_set HX1.out 3 (.int .i64 v); simpa [secV] using this
 obtain ⟨tv1, hm1⟩ := HD.out.mem
 have HM5 := jA (RMem.Mem.far hm1 (p := ⟨bx, 3, none⟩) hFx (.int .i64 v))
 have HK5 := jA (((RCells.Did.drew HD.out).keep.less (G := Out F bx) (fun k hk => hk.1)).setCell (p := ⟨bx, 3, none⟩) (fun h => h.2 rfl) (.int .i64 v))
 obtain ⟨W5, hW5⟩ : ∃ W5, W5 = w1.setCell ⟨bx, 3, none⟩ (.int .i64 v) := ⟨_, rfl⟩
 rw [← hW5] at hS5 HM5 HK5 ⊢
 have hc2 := cellOf hS5 2 (.int .i64 0) rfl
 have hf2 := MPut.frozen_of_row hS5 2
 have HS5 := jA hS5
 clear hW5 hS5 hm1 hc0 hd0 hd1
 go_wp2
 go_ret
 refine ⟨rfl, ⟨_, RMem.Mem.far HM5.out (p := ⟨bx, 2, none⟩) hFx _⟩, HK5.out.setCell (p := ⟨bx, 2, none⟩) (fun h => h.2 rfl) _, ?_⟩
 have := blk_set HS5.out 2 (.int .i64 1)
 simpa [secV] using this
theorem step1_calls (F : Nat → Prop) (w : World) (bm bw bs bx : Nat) (ws : List Int) (tr : List S115) (bad ep first n : Int) (tv : Value) (slot seen : Int) (hM : Mem F w bm bw ws tr bad tv) (hl : tr.length ≤ 1000000000000) (hS : SlotsAt w bs bm ep first n) (hF : F bs) (hX : SecAt w bx bs slot 1 seen) (hFx : F bx) (hne : bs ≠ bx) :
  Calls Tryz.prog 83 #[.pointer (some ⟨bx, 0, none⟩)] w fun e w' => e = .returned (.bool true) ∧ (∃ tv', Mem F w' bm bw (stW ws (wrap64 (first + slot)) seen) (tr ++ [accS ws (wrap64 (first + slot)) seen]) (lkB ws (wrap64 (first + slot)) bad) tv') ∧ Keep (Out F bx) w w' ∧ SecAt w' bx bs slot 2 seen := by
 have hc0 := cellOf hX 0 (.pointer (some ⟨bs, 0, none⟩)) rfl
 have hc1 := cellOf hX 1 (.int .i64 slot) rfl
 have hc2 := cellOf hX 2 (.int .i64 1) rfl
 have hc3 := cellOf hX 3 (.int .i64 seen) rfl
 have HQ := jA (tell_calls F w.drew bm bw bs ws tr bad ep first n tv slot seen (drewMem hM) hl hS hF)
 have HX := jA hX
 obtain ⟨ws', hws⟩ : ∃ v, v = stW ws (wrap64 (first + slot)) seen := ⟨_, rfl⟩
 obtain ⟨tr', htr⟩ : ∃ v, v = tr ++ [accS ws (wrap64 (first + slot)) seen] := ⟨_, rfl⟩
 obtain ⟨E, hE⟩ : ∃ E, E = lkE ws (wrap64 (first + slot)) := ⟨_, rfl⟩
 rw [← hws, ← htr, ← hE] at HQ
 rw [← hws, ← htr]
 clear hM hl hS hX hE hws htr
 go_enter Tryz.func83, Tryz.ntmps83
 go_upto_region 7 with fail
 refine start_ (n := 13) (S := fun w' => w'.cell? ⟨bx, 0, none⟩ = some (.pointer (some ⟨bs, 0, none⟩)) ∧ w'.cell? ⟨bx, 1, none⟩ = some (.int .i64 slot) ∧ w'.cell? ⟨bx, 3, none⟩ = some (.int .i64 seen)) (ds := []) (Jb 13 0) (by kernel_rfl) rfl (by kernel_rfl) ⟨hc0, hc1, hc3⟩ (fun hHeld => ?_)
 refine Jp 0 39 (Jb 13 1) rfl rfl ?_
 refine Jp 1 40 (Jb 13 3) rfl rfl ?_
 refine Jp 2 41 (Jb 13 7) rfl rfl ?_
 refine Jk 3 42 (Jb 13 15) rfl rfl hHeld (.inl ⟨by rfl, by rintro w' ⟨s0, s1, s2⟩; go_simp; with_reducible rfl⟩) ?_
 refine Jp 4 43 (Jb 13 31) rfl rfl ?_
 refine Jp 5 44 (Jb 13 63) rfl rfl ?_
 refine Jp 6 45 (Jb 13 127) rfl rfl ?_
 refine Jk 7 46 (Jb 13 255) rfl rfl hHeld (.inl ⟨by rfl, by rintro w' ⟨s0, s1, s2⟩; go_simp; with_reducible rfl⟩) ?_
 refine Jp 8 47 (Jb 13 511) rfl rfl ?_
 refine Jp 9 48 (Jb 13 1023) rfl rfl ?_
 refine Jp 10 49 (Jb 13 2047) rfl rfl ?_
 refine Jk 11 50 (Jb 13 4095) rfl rfl hHeld (.inl ⟨by rfl, by rintro w' ⟨s0, s1, s2⟩; go_simp; with_reducible rfl⟩) ?_
 refine one_ (i := 12) (N := some 51) (Jb 13 8191) rfl rfl (by kernel_rfl) (by decide) (fun K hK => ?_)
 refine goes_ Tryz.func102 (by kernel_rfl) rfl #[.pointer (some ⟨bs, 0, none⟩), .int .i64 slot, .int .i64 seen] (by rfl) rfl rfl (by (try simp only [List.map_toArray, List.map_cons, List.map_nil]); first | done | rfl) ?_
 refine HQ.out.mono ?_
 rintro e w1 ⟨rfl, hD⟩
 refine ⟨_, rfl, ?_⟩
 have HD := jA hD
 have HX1 := jA (show SecAt w1 bx bs slot 1 seen from (hD.keep.at_ _ (Array.getElem?_eq_some_iff.1 HX.out).1 hFx).trans HX.out)
 refine hK.out _ _ ⟨RMem.Keep.cell hD.keep hc0 hFx, RMem.Keep.cell hD.keep hc1 hFx, RMem.Keep.cell hD.keep hc3 hFx⟩ (fun hHeld => ?_)
 clear hK K hD
 refine norm_ (a' := ?_) ?_ ?_; rotate_left; (show Act.put _ (some 51) _ = _; simp only [Act.put, Jq, Jr, Js]; rfl)
 refine done_ (by kernel_rfl) ?_
 have hS5 := HX1.out
 obtain ⟨tv1, hm1⟩ := HD.out.mem
 have HM5 := jA hm1
 have HK5 := jA ((RCells.Did.drew HD.out).keep.less (G := Out F bx) (fun k hk => hk.1))
 have hc2 := cellOf hS5 2 (.int .i64 1) rfl
 have hf2 := MPut.frozen_of_row hS5 2
 have HS5 := jA hS5
 clear hS5 hm1 hc0 hc1 hc3
 go_wp2
 go_ret
 refine ⟨rfl, ⟨_, RMem.Mem.far HM5.out (p := ⟨bx, 2, none⟩) hFx _⟩, HK5.out.setCell (p := ⟨bx, 2, none⟩) (fun h => h.2 rfl) _, ?_⟩
 have := blk_set HS5.out 2 (.int .i64 2)
 simpa [secV] using this
end Go.Proofs.YtdgkppldopiaoaaGreat.REpoch
/- reader.Machine: its variable; load, broken, current, mark, leave, walked. -/
namespace Go.Proofs.YtdgkppldopiaoaaGreat.RMach
open Go.RowKit YtdgkppldopiaoaaGreatW.PrintWords YtdgkppldopiaoaaGreatW.PrintLast YtdgkppldopiaoaaGreatW.PrintMore BMap BRow MLines MPut RMem RCells REpoch Go.Maps
open PG
set_option maxHeartbeats 1000000
set_option maxRecDepth 100000
structure Mst where
 slot : Int
 cache : Option Nat
 check : Bool
 y0 : Int
 y1 : Int
 y2 : Int
 next : Option Nat
 point : Int
 al : Bool
 hit : Bool
 br : Bool
 ver : Int
 page : Int
 size : Int
 kind : Int
 place : Int
 seen : Int
 f0 : Int
 f1 : Int
 f2 : Int
 cols : Int
def nextV (b : Nat) : Option Nat → Value
 | none => .nilFunc
 | some f => .func (.func f) #[.pointer (some ⟨b, 0, none⟩)] #[]
def cacheV : Option Nat → Value
 | none => .pointer none
 | some c => .pointer (some ⟨c, 0, none⟩)
abbrev mV (bsite bx b : Nat) (m : Mst) : Array Value := #[.pointer (some ⟨bsite, 0, none⟩), .int .i64 m.slot, cacheV m.cache, .bool m.check, .int .i64 m.y0, .int .i64 m.y1, .int .i64 m.y2, .pointer (some ⟨bx, 0, none⟩), nextV b m.next, .int .i64 m.point,
 .bool m.al, .bool m.hit, .bool m.br, .int .i64 m.ver, .int .i64 m.page, .int .i64 m.size, .int .i64 m.kind, .int .i64 m.place, .int .i64 m.seen, .int .i64 m.f0, .int .i64 m.f1, .int .i64 m.f2, .int .i64 m.cols]
abbrev MachAt (w : World) (b bsite bx : Nat) (m : Mst) : Prop := w.heap[b]? = some (.cells (mV bsite bx b m) 130 (0, 0))
abbrev siteV (bm bs : Nat) (cur flaw : Int) : Array Value := #[.pointer (some ⟨bm, 0, none⟩), .pointer (some ⟨bs, 0, none⟩), .int .i64 cur, .int .i64 flaw]
abbrev SiteAt (w : World) (bsite bm bs : Nat) (cur flaw : Int) : Prop := w.heap[bsite]? = some (.cells (siteV bm bs cur flaw) 64 (0, 0))
structure Only (b : Nat) (w w' : World) : Prop where
 size : w'.heap.size = w.heap.size
 at_ : ∀ k, k ≠ b → w'.heap[k]? = w.heap[k]?
 ext : Ext w w'
namespace Only
variable {b : Nat} {w w1 w2 : World}
theorem refl (b : Nat) (w : World) : Only b w w := ⟨rfl, fun _ _ => rfl, rfl, rfl, rfl⟩
theorem setCell (h : Only b w w1) (i : Nat) (u : Value) : Only b w (w1.setCell ⟨b, i, none⟩ u) :=
 ⟨by rw [← h.size]; simp [World.setCell], fun k hk => (Below.heap_setCell w1 ⟨b, i, none⟩ u k hk).trans (h.at_ k hk), h.ext⟩
theorem drew (h : Only b w w1) : Only b w w1.drew := ⟨h.size, h.at_, h.ext⟩
theorem keep (h : Only b w w1) (F : Nat → Prop) : Keep (Out F b) w w1 := ⟨by rw [h.size]; exact Nat.le_refl _, fun k _ hk => h.at_ k hk.2, h.ext⟩
end Only
theorem R_stay {α : Type} {d : Kd α} {e base : Nat} {ok : Nat → Prop} {w w1 : World} {v : Value} {xs : List α} (hE : d.E = []) (h : d.R e w base ok v xs) (hm : ∀ k, v.ownBlock = some k → k < w.heap.size → w1.heap[k]? = w.heap[k]?) : d.R e w1 base ok v xs :=
 Kd.R_reok hE (Kd.R_step (Kd.R_tight hE h) (fun k hk hlt => hm k hk.symm hlt)) (fun k hk => h.1 k hk)
theorem _root_.Go.Proofs.YtdgkppldopiaoaaGreat.RMem.Mem.only {F : Nat → Prop} {w w1 : World} {bm bw b : Nat} {ws : List Int} {tr : List S115} {bad : Int} {tv : Value} (h : Mem F w bm bw ws tr bad tv) (hO : Only b w w1) (hF : F b) : Mem F w1 bm bw ws tr bad tv :=
 { h with mem := (hO.at_ _ (fun e => h.fm (by rw [e]; exact hF))).trans h.mem, words := (hO.at_ _ (fun e => h.fw (by rw [e]; exact hF))).trans h.words, row := R_stay rfl h.row (fun k hk _ => hO.at_ _ (fun e => h.ownF k (by rw [e]; exact hF) hk.symm)), lt := fun k hk => by rw [hO.size]; exact h.lt k hk }
def brk (m : Mst) : Mst := { m with br := true, al := false, next := some 103 }
theorem broken_calls (w : World) (b bsite bx : Nat) (m : Mst) (hm : MachAt w b bsite bx m) :
  Calls Tryz.prog 107 #[.pointer (some ⟨b, 0, none⟩)] w fun e w' => e = .returned (.tuple #[]) ∧ MachAt w' b bsite bx (brk m) ∧ Only b w w' := by
 have h12 := cellOf hm 12 (.bool m.br) rfl
 have g12 := MPut.frozen_of_row hm 12
 have k1 := blk_set hm 12 (.bool true)
 obtain ⟨w1, hw1⟩ : ∃ w1, w1 = w.setCell ⟨b, 12, none⟩ (.bool true) := ⟨_, rfl⟩
 have o1 : Only b w w1 := by rw [hw1]; exact (Only.refl b w).setCell 12 _
 rw [← hw1] at k1
 have h10 := cellOf k1 10 (.bool m.al) rfl
 have g10 := MPut.frozen_of_row k1 10
 have k2 := blk_set k1 10 (.bool false)
 obtain ⟨w2, hw2⟩ : ∃ w2, w2 = w1.setCell ⟨b, 10, none⟩ (.bool false) := ⟨_, rfl⟩
 have o2 : Only b w w2 := by rw [hw2]; exact o1.setCell 10 _
 rw [← hw2] at k2
 have h8 := cellOf k2 8 (nextV b m.next) rfl
 have g8 := MPut.frozen_of_row k2 8
 have HK := jA k2
 have HO := jA o2
 subst hw2
 subst hw1
 clear hm k1 k2 o1 o2
 go_enter Tryz.func107, Tryz.ntmps107
 go_wp2
 go_end0
 exact ⟨rfl, blk_set HK.out 8 (nextV b (some 103)), HO.out.setCell 8 _⟩
structure Sh where
 bm : Nat
 bw : Nat
 bs : Nat
 bsite : Nat
 bx : Nat
 b : Nat
 cur : Int
 flaw : Int
 ep : Int
 first : Int
 n : Int
structure X where
 ws : List Int
 tr : List S115
 bad : Int
 m : Mst
 stp : Int
 sn : Int
structure Rd (F : Nat → Prop) (S : Sh) (w : World) (x : X) : Prop where
 mem : ∃ tv, Mem F w S.bm S.bw x.ws x.tr x.bad tv
 site : SiteAt w S.bsite S.bm S.bs S.cur S.flaw
 slots : SlotsAt w S.bs S.bm S.ep S.first S.n
 mach : MachAt w S.b S.bsite S.bx x.m
 sec : SecAt w S.bx S.bs x.m.slot x.stp x.sn
 fsite : F S.bsite
 fs : F S.bs
 fb : F S.b
 fx : F S.bx
 n1 : S.bsite ≠ S.b
 n2 : S.bs ≠ S.b
 n3 : S.bx ≠ S.b
 n4 : S.bsite ≠ S.bx
 n5 : S.bs ≠ S.bx
 lo : 0 ≤ x.m.slot
 hi : x.m.slot < S.n
 short : x.tr.length ≤ 1000000000000
def Out2 (F : Nat → Prop) (b c : Nat) : Nat → Prop := fun k => F k ∧ k ≠ b ∧ k ≠ c
namespace Rd
variable {F : Nat → Prop} {S : Sh} {w w1 : World} {x : X}
theorem blk {k : Nat} {cs : Array Value} {t : TypeId} (hk : Keep F w w1) (hF : F k) (h : w.heap[k]? = some (.cells cs t (0, 0))) : w1.heap[k]? = some (.cells cs t (0, 0)) := (hk.at_ _ (Array.getElem?_eq_some_iff.1 h).1 hF).trans h
theorem used (h : Rd F S w x) {ws : List Int} {tr : List S115} {bad : Int} (hD : Did F w w1 S.bm S.bw ws tr bad) (hs : tr.length ≤ 1000000000000) : Rd F S w1 { x with ws := ws, tr := tr, bad := bad } :=
 { h with mem := hD.mem, site := blk hD.keep h.fsite h.site, slots := blk hD.keep h.fs h.slots, mach := blk hD.keep h.fb h.mach, sec := blk hD.keep h.fx h.sec, short := hs }
theorem put (h : Rd F S w x) {m : Mst} (hO : Only S.b w w1) (hm : MachAt w1 S.b S.bsite S.bx m) (hs : m.slot = x.m.slot) : Rd F S w1 { x with m := m } :=
 { h with mem := by obtain ⟨tv, ht⟩ := h.mem; exact ⟨tv, ht.only hO h.fb⟩, site := (hO.at_ _ h.n1).trans h.site, slots := (hO.at_ _ h.n2).trans h.slots, mach := hm, sec := by rw [show ({ x with m := m } : X).m.slot = x.m.slot from hs]; exact (hO.at_ _ h.n3).trans h.sec, lo := by rw [show ({ x with m := m } : X).m.slot = x.m.slot from hs]; exact h.lo, hi := by rw [show ({ x with m := m } : X).m.slot = x.m.slot from hs]; exact h.hi }
theorem drew (h : Rd F S w x) : Rd F S w.drew x := by
 obtain ⟨tv, ht⟩ := h.mem
 exact { h with mem := ⟨tv, drewMem ht⟩ }
end Rd
def X.acc (x : X) (a : Int) : X := { x with tr := x.tr ++ [accL x.ws a], bad := lkB x.ws a x.bad }
def X.ld (x : X) (a : Int) : X := if lkE x.ws a = 0 then x.acc a else { x.acc a with m := brk x.m }
def ldV (ws : List Int) (a : Int) : Int := if lkE ws a = 0 then lkV ws a else 0
theorem mload_calls (F : Nat → Prop) (S : Sh) (w : World) (x : X) (a : Int) (h : Rd F S w x) (hl : x.tr.length < 1000000000000) :
  Calls Tryz.prog 85 #[.pointer (some ⟨S.b, 0, none⟩), .int .i64 a] w fun e w' => e = .returned (.tuple #[.int .i64 (ldV x.ws a), .bool (lkE x.ws a == 0)]) ∧ Rd F S w' (x.ld a) ∧ Keep (Out F S.b) w w' := by
 obtain ⟨tv, hM⟩ := h.mem
 have hb0 := cellOf h.mach 0 (.pointer (some ⟨S.bsite, 0, none⟩)) rfl
 have hs0 := cellOf h.site 0 (.pointer (some ⟨S.bm, 0, none⟩)) rfl
 have HQ := jA (load_calls F w S.bm S.bw x.ws x.tr x.bad tv a hM h.short)
 have HR := jA h
 have HLT := jA hl
 clear hM h hl
 by_cases h0 : lkE x.ws a = 0
 ·have e1 : ldV x.ws a = lkV x.ws a := by rw [ldV, if_pos h0]
  have e2 : x.ld a = x.acc a := by rw [X.ld, if_pos h0]
  rw [e1, e2, h0]
  rw [h0] at HQ
  clear e1 e2 h0
  go_enter Tryz.func85, Tryz.ntmps85
  go_wp2_with (first | (go_at_call 101; (refine HQ.out.mono ?_); rintro e w1 ⟨rfl, hD⟩; have HD := jA hD; clear hD))
  go_ret2
  exact ⟨rfl, HR.out.used HD.out (by have := HLT.out; simp; omega), HD.out.keep.less (fun k hk => hk.1)⟩
 ·have e1 : ldV x.ws a = 0 := by rw [ldV, if_neg h0]
  have e2 : x.ld a = { x.acc a with m := brk x.m } := by rw [X.ld, if_neg h0]
  have e3 : (lkE x.ws a == 0) = false := by rw [beq_eq_false_iff_ne]; exact h0
  rw [e1, e2, e3]
  obtain ⟨E, hE⟩ : ∃ E, E = lkE x.ws a := ⟨_, rfl⟩
  rw [← hE] at HQ h0
  clear e1 e2 e3 hE
  go_enter Tryz.func85, Tryz.ntmps85
  go_wp2_with (first | (go_at_call 101; (refine HQ.out.mono ?_); rintro e w1 ⟨rfl, hD⟩; have HR1 := jA (HR.out.used hD (by have := HLT.out; simp; omega)); have HD := jA hD; clear hD) | (go_at_call 107; (refine (broken_calls _ S.b S.bsite S.bx x.m HR1.out.mach).mono ?_); rintro e w2 ⟨rfl, hm2, hO2⟩; have HR2 := jA (HR1.out.put hO2 hm2 rfl); have HO2 := jA hO2; clear hm2 hO2))
  go_ret2
  exact ⟨rfl, HR2.out, (HD.out.keep.less (fun k hk => hk.1)).trans (HO2.out.keep F)⟩
end Go.Proofs.YtdgkppldopiaoaaGreat.RMach
/- reader.Machine's steps: current, mark, leave, walked. -/
namespace Go.Proofs.YtdgkppldopiaoaaGreat.RSteps
open Go.RowKit YtdgkppldopiaoaaGreatW.PrintWords YtdgkppldopiaoaaGreatW.PrintLast YtdgkppldopiaoaaGreatW.PrintMore BMap BRow MLines MPut RMem RCells REpoch RMach Go.Maps
open PG
set_option maxHeartbeats 1000000
set_option maxRecDepth 100000
theorem mload_ok (F : Nat → Prop) (S : Sh) (w : World) (x : X) (a : Int) (h : Rd F S w x) (hl : x.tr.length < 1000000000000) (h0 : lkE x.ws a = 0) :
  Calls Tryz.prog 85 #[.pointer (some ⟨S.b, 0, none⟩), .int .i64 a] w fun e w' => e = .returned (.tuple #[.int .i64 (lkV x.ws a), .bool true]) ∧ Rd F S w' (x.acc a) ∧ Keep (Out F S.b) w w' := by
 have := mload_calls F S w x a h hl
 rw [ldV, if_pos h0, X.ld, if_pos h0, h0] at this
 exact this
theorem mload_bad (F : Nat → Prop) (S : Sh) (w : World) (x : X) (a : Int) (h : Rd F S w x) (hl : x.tr.length < 1000000000000) (h0 : lkE x.ws a ≠ 0) :
  Calls Tryz.prog 85 #[.pointer (some ⟨S.b, 0, none⟩), .int .i64 a] w fun e w' => e = .returned (.tuple #[.int .i64 0, .bool false]) ∧ Rd F S w' { x.acc a with m := brk x.m } ∧ Keep (Out F S.b) w w' := by
 have := mload_calls F S w x a h hl
 have hb : (lkE x.ws a == 0) = false := by rw [beq_eq_false_iff_ne]; exact h0
 rw [ldV, if_neg h0, X.ld, if_neg h0, hb] at this
 exact this
def setPage (x : X) (p : Int) : X := { x with m := { x.m with page := p } }
def curX (S : Sh) (now : Int) (x : X) : X :=
 let x1 : X := { x with m := { x.m with point := now, next := some (if S.flaw = 4 then 60 else 84) } }
 if lkE x.ws S.cur = 0 then setPage (x1.acc S.cur) (lkV x.ws S.cur) else { x1.acc S.cur with m := brk x1.m }
theorem current_calls (F : Nat → Prop) (S : Sh) (w : World) (x : X) (now : Int) (h : Rd F S w x) (hl : x.tr.length < 1000000000000) :
  Calls Tryz.prog 61 #[.pointer (some ⟨S.b, 0, none⟩), .int .i64 now] w fun e w' => e = .returned (.tuple #[]) ∧ Rd F S w' (curX S now x) ∧ Keep (Out F S.b) w w' := by
 have b0w := cellOf h.mach 0 (.pointer (some ⟨S.bsite, 0, none⟩)) rfl
 by_cases hf : S.flaw = 4
 ·skip
  have c1 := cellOf h.mach 9 (.int .i64 x.m.point) rfl
  have g1 := MPut.frozen_of_row h.mach 9
  have k1 := blk_set h.mach 9 (.int .i64 now)
  obtain ⟨w1, hw1⟩ : ∃ v, v = w.setCell ⟨S.b, 9, none⟩ (.int .i64 now) := ⟨_, rfl⟩
  have o1 : Only S.b w w1 := by rw [hw1]; exact (Only.refl S.b w).setCell 9 _
  rw [← hw1] at k1
  have c2 := cellOf k1 8 (nextV S.b x.m.next) rfl
  have g2 := MPut.frozen_of_row k1 8
  have k2 := blk_set k1 8 (.func (.func 84) #[.pointer (some ⟨S.b, 0, none⟩)] #[])
  obtain ⟨w2, hw2⟩ : ∃ v, v = w1.setCell ⟨S.b, 8, none⟩ (.func (.func 84) #[.pointer (some ⟨S.b, 0, none⟩)] #[]) := ⟨_, rfl⟩
  have o2 : Only S.b w w2 := by rw [hw2]; exact (o1).setCell 8 _
  rw [← hw2] at k2
  have c3 := cellOf k2 8 (.func (.func 84) #[.pointer (some ⟨S.b, 0, none⟩)] #[]) rfl
  have g3 := MPut.frozen_of_row k2 8
  have k3 := blk_set k2 8 (.func (.func 60) #[.pointer (some ⟨S.b, 0, none⟩)] #[])
  obtain ⟨w3, hw3⟩ : ∃ v, v = w2.setCell ⟨S.b, 8, none⟩ (.func (.func 60) #[.pointer (some ⟨S.b, 0, none⟩)] #[]) := ⟨_, rfl⟩
  have o3 : Only S.b w w3 := by rw [hw3]; exact (o2).setCell 8 _
  rw [← hw3] at k3
  have r1 : Rd F S w3 { x with m := { x.m with point := now, next := some 60 } } := h.put o3 k3 rfl
  have HR1 := jA r1
  have HO1 := jA o3
  have s2 := cellOf r1.site 2 (.int .i64 S.cur) rfl
  have s3 := cellOf r1.site 3 (.int .i64 S.flaw) rfl
  have b0 := cellOf k3 0 (.pointer (some ⟨S.bsite, 0, none⟩)) rfl
  have b0' := cellOf k2 0 (.pointer (some ⟨S.bsite, 0, none⟩)) rfl
  have s3' : w2.cell? ⟨S.bsite, 3, none⟩ = some (.int .i64 S.flaw) := cellOf (w := w2) ((o2.at_ _ h.n1).trans h.site) 3 (.int .i64 S.flaw) rfl
  clear k1 k2 k3 r1 o1 o2 o3
  subst hw3
  subst hw2
  subst hw1
  have HLT := jA hl
  have hfl := hf
  clear hl h
  by_cases h0 : lkE x.ws S.cur = 0
  ·have e1 : curX S now x = setPage (X.acc { x with m := { x.m with point := now, next := some 60 } } S.cur) (lkV x.ws S.cur) := by simp only [curX, if_pos h0, if_pos hf]
   rw [e1]
   have HQ := jA (mload_ok F S _ { x with m := { x.m with point := now, next := some 60 } } S.cur HR1.out HLT.out h0)
   clear e1 h0
   go_enter Tryz.func61, Tryz.ntmps61
   go_wp2_with (first | (go_at_call 85; (refine HQ.out.mono ?_); rintro e w4 ⟨rfl, hR2, hK2⟩; have HR2 := jA hR2; have HK2 := jA hK2; have c14 := cellOf hR2.mach 14 (.int .i64 x.m.page) rfl; have g14 := MPut.frozen_of_row hR2.mach 14; clear hR2 hK2))
   go_end0
   exact ⟨rfl, HR2.out.put ((Only.refl S.b _).setCell 14 _) (blk_set HR2.out.mach 14 (.int .i64 (lkV x.ws S.cur))) rfl, ((HO1.out.keep F).trans HK2.out).trans (((Only.refl S.b _).setCell 14 _).keep F)⟩
  ·have e1 : curX S now x = { X.acc { x with m := { x.m with point := now, next := some 60 } } S.cur with m := brk ({ x.m with point := now, next := some 60 }) } := by simp only [curX, if_neg h0, if_pos hf]
   rw [e1]
   have HQ := jA (mload_bad F S _ { x with m := { x.m with point := now, next := some 60 } } S.cur HR1.out HLT.out h0)
   clear e1 h0
   go_enter Tryz.func61, Tryz.ntmps61
   go_wp2_with (first | (go_at_call 85; (refine HQ.out.mono ?_); rintro e w4 ⟨rfl, hR2, hK2⟩; have HR2 := jA hR2; have HK2 := jA hK2; clear hR2 hK2))
   go_end0
   exact ⟨rfl, HR2.out, (HO1.out.keep F).trans HK2.out⟩
 ·skip
  have c1 := cellOf h.mach 9 (.int .i64 x.m.point) rfl
  have g1 := MPut.frozen_of_row h.mach 9
  have k1 := blk_set h.mach 9 (.int .i64 now)
  obtain ⟨w1, hw1⟩ : ∃ v, v = w.setCell ⟨S.b, 9, none⟩ (.int .i64 now) := ⟨_, rfl⟩
  have o1 : Only S.b w w1 := by rw [hw1]; exact (Only.refl S.b w).setCell 9 _
  rw [← hw1] at k1
  have c2 := cellOf k1 8 (nextV S.b x.m.next) rfl
  have g2 := MPut.frozen_of_row k1 8
  have k2 := blk_set k1 8 (.func (.func 84) #[.pointer (some ⟨S.b, 0, none⟩)] #[])
  obtain ⟨w2, hw2⟩ : ∃ v, v = w1.setCell ⟨S.b, 8, none⟩ (.func (.func 84) #[.pointer (some ⟨S.b, 0, none⟩)] #[]) := ⟨_, rfl⟩
  have o2 : Only S.b w w2 := by rw [hw2]; exact (o1).setCell 8 _
  rw [← hw2] at k2
  have r1 : Rd F S w2 { x with m := { x.m with point := now, next := some 84 } } := h.put o2 k2 rfl
  have HR1 := jA r1
  have HO1 := jA o2
  have s2 := cellOf r1.site 2 (.int .i64 S.cur) rfl
  have s3 := cellOf r1.site 3 (.int .i64 S.flaw) rfl
  have b0 := cellOf k2 0 (.pointer (some ⟨S.bsite, 0, none⟩)) rfl
  have b0' := cellOf k2 0 (.pointer (some ⟨S.bsite, 0, none⟩)) rfl
  have s3' : w2.cell? ⟨S.bsite, 3, none⟩ = some (.int .i64 S.flaw) := cellOf (w := w2) ((o2.at_ _ h.n1).trans h.site) 3 (.int .i64 S.flaw) rfl
  clear k1 k2 r1 o1 o2
  subst hw2
  subst hw1
  have HLT := jA hl
  have hfl := hf
  clear hl h
  by_cases h0 : lkE x.ws S.cur = 0
  ·have e1 : curX S now x = setPage (X.acc { x with m := { x.m with point := now, next := some 84 } } S.cur) (lkV x.ws S.cur) := by simp only [curX, if_pos h0, if_neg hf]
   rw [e1]
   have HQ := jA (mload_ok F S _ { x with m := { x.m with point := now, next := some 84 } } S.cur HR1.out HLT.out h0)
   clear e1 h0
   go_enter Tryz.func61, Tryz.ntmps61
   go_wp2_with (first | (go_at_call 85; (refine HQ.out.mono ?_); rintro e w4 ⟨rfl, hR2, hK2⟩; have HR2 := jA hR2; have HK2 := jA hK2; have c14 := cellOf hR2.mach 14 (.int .i64 x.m.page) rfl; have g14 := MPut.frozen_of_row hR2.mach 14; clear hR2 hK2))
   go_end0
   exact ⟨rfl, HR2.out.put ((Only.refl S.b _).setCell 14 _) (blk_set HR2.out.mach 14 (.int .i64 (lkV x.ws S.cur))) rfl, ((HO1.out.keep F).trans HK2.out).trans (((Only.refl S.b _).setCell 14 _).keep F)⟩
  ·have e1 : curX S now x = { X.acc { x with m := { x.m with point := now, next := some 84 } } S.cur with m := brk ({ x.m with point := now, next := some 84 }) } := by simp only [curX, if_neg h0, if_neg hf]
   rw [e1]
   have HQ := jA (mload_bad F S _ { x with m := { x.m with point := now, next := some 84 } } S.cur HR1.out HLT.out h0)
   clear e1 h0
   go_enter Tryz.func61, Tryz.ntmps61
   go_wp2_with (first | (go_at_call 85; (refine HQ.out.mono ?_); rintro e w4 ⟨rfl, hR2, hK2⟩; have HR2 := jA hR2; have HK2 := jA hK2; clear hR2 hK2))
   go_end0
   exact ⟨rfl, HR2.out, (HO1.out.keep F).trans HK2.out⟩
theorem rd_sect {F : Nat → Prop} {S : Sh} {w w1 : World} {x : X} (h : Rd F S w x) {ws : List Int} {tr : List S115} {bad stp sn : Int} (hM : ∃ tv, Mem F w1 S.bm S.bw ws tr bad tv) (hK : Keep (Out F S.bx) w w1) (hX : SecAt w1 S.bx S.bs x.m.slot stp sn) (hs : tr.length ≤ 1000000000000) :
  Rd F S w1 { x with ws := ws, tr := tr, bad := bad, stp := stp, sn := sn } :=
 { h with mem := hM, site := Rd.blk hK ⟨h.fsite, h.n4⟩ h.site, slots := Rd.blk hK ⟨h.fs, h.n5⟩ h.slots, mach := Rd.blk hK ⟨h.fb, fun e => h.n3 e.symm⟩ h.mach, sec := hX, short := hs }
def spot (S : Sh) (x : X) : Int := wrap64 (S.first + x.m.slot)
def X.tel (S : Sh) (x : X) (v : Int) : X := { x with ws := stW x.ws (spot S x) v, tr := x.tr ++ [accS x.ws (spot S x) v], bad := lkB x.ws (spot S x) x.bad }
def leaveX (S : Sh) (x : X) : X := { X.tel S x 0 with m := { x.m with next := none } }
theorem leave_m (F : Nat → Prop) (S : Sh) (w : World) (x : X) (now : Int) (h : Rd F S w x) (hl : x.tr.length < 1000000000000) :
  Calls Tryz.prog 103 #[.pointer (some ⟨S.b, 0, none⟩), .int .i64 now] w fun e w' => e = .returned (.tuple #[]) ∧ Rd F S w' (leaveX S x) ∧ Keep (Out F S.b) w w' := by
 obtain ⟨tv, hM⟩ := h.mem
 have b0 := cellOf h.mach 0 (.pointer (some ⟨S.bsite, 0, none⟩)) rfl
 have b1 := cellOf h.mach 1 (.int .i64 x.m.slot) rfl
 have s1 := cellOf h.site 1 (.pointer (some ⟨S.bs, 0, none⟩)) rfl
 have HQ := jA (leave_calls F w.drew S.bm S.bw S.bs x.ws x.tr x.bad S.ep S.first S.n tv x.m.slot (drewMem hM) h.short h.slots h.fs h.lo h.hi)
 have HR := jA h
 have HLT := jA hl
 clear hM h hl
 go_enter Tryz.func103, Tryz.ntmps103
 go_upto_region 0 with fail
 refine start_ (n := 12) (S := fun w' => w'.cell? ⟨S.b, 0, none⟩ = some (.pointer (some ⟨S.bsite, 0, none⟩)) ∧ w'.cell? ⟨S.bsite, 1, none⟩ = some (.pointer (some ⟨S.bs, 0, none⟩)) ∧ w'.cell? ⟨S.b, 1, none⟩ = some (.int .i64 x.m.slot)) (ds := []) (Jb 12 0) (by kernel_rfl) rfl (by kernel_rfl) ⟨b0, s1, b1⟩ (fun hHeld => ?_)
 refine Jp 0 4 (Jb 12 1) rfl rfl ?_
 refine Jp 1 5 (Jb 12 3) rfl rfl ?_
 refine Jp 2 6 (Jb 12 7) rfl rfl ?_
 refine Jk 3 7 (Jb 12 15) rfl rfl hHeld (.inl ⟨by rfl, by rintro w' ⟨s0, s1, s2⟩; go_simp; with_reducible rfl⟩) ?_
 refine Jp 4 8 (Jb 12 31) rfl rfl ?_
 refine Jp 5 9 (Jb 12 63) rfl rfl ?_
 refine Jk 6 10 (Jb 12 127) rfl rfl hHeld (.inl ⟨by rfl, by rintro w' ⟨s0, s1, s2⟩; go_simp; with_reducible rfl⟩) ?_
 refine Jp 7 11 (Jb 12 255) rfl rfl ?_
 refine Jp 8 12 (Jb 12 511) rfl rfl ?_
 refine Jp 9 13 (Jb 12 1023) rfl rfl ?_
 refine Jk 10 14 (Jb 12 2047) rfl rfl hHeld (.inl ⟨by rfl, by rintro w' ⟨s0, s1, s2⟩; go_simp; with_reducible rfl⟩) ?_
 refine one_ (i := 11) (N := some 15) (Jb 12 4095) rfl rfl (by kernel_rfl) (by decide) (fun K hK => ?_)
 refine goes_ Tryz.func117 (by kernel_rfl) rfl #[.pointer (some ⟨S.bs, 0, none⟩), .int .i64 x.m.slot] (by rfl) rfl rfl (by (try simp only [List.map_toArray, List.map_cons, List.map_nil]); first | done | rfl) ?_
 refine HQ.out.mono ?_
 rintro e w1 ⟨rfl, hD⟩
 refine ⟨_, rfl, ?_⟩
 have HD := jA hD
 refine hK.out _ _ ⟨RMem.Keep.cell hD.keep b0 HR.out.fb, RMem.Keep.cell hD.keep s1 HR.out.fsite, RMem.Keep.cell hD.keep b1 HR.out.fb⟩ (fun hHeld => ?_)
 clear hK K hD
 refine norm_ (a' := ?_) ?_ ?_; rotate_left; (show Act.put _ (some 15) _ = _; simp only [Act.put, Jq, Jr, Js]; rfl)
 refine done_ (by kernel_rfl) ?_
 have hR1 := HR.out.used (RCells.Did.drew HD.out) (by have := HLT.out; simp; omega)
 have HR1 := jA hR1
 have c8 := cellOf hR1.mach 8 (nextV S.b x.m.next) rfl
 have g8 := MPut.frozen_of_row hR1.mach 8
 clear hR1 b0 b1 s1
 go_wp2
 go_end0
 exact ⟨rfl, HR1.out.put ((Only.refl S.b _).setCell 8 _) (blk_set HR1.out.mach 8 .nilFunc) rfl, ((RCells.Did.drew HD.out).keep.less (fun k hk => hk.1)).trans (((Only.refl S.b _).setCell 8 _).keep F)⟩
def markX (S : Sh) (x : X) : X :=
 if x.stp = 0 then { x.acc S.ep with stp := 1, sn := lkV x.ws S.ep } else { X.tel S x x.sn with stp := 2, m := { x.m with next := some (if S.flaw = 4 then 84 else 61) } }
def Out3 (F : Nat → Prop) (S : Sh) : Nat → Prop := fun k => F k ∧ k ≠ S.b ∧ k ≠ S.bx
theorem mark_calls (F : Nat → Prop) (S : Sh) (w : World) (x : X) (now : Int) (h : Rd F S w x) (hl : x.tr.length < 1000000000000) (hs : x.stp = 0 ∨ x.stp = 1) :
  Calls Tryz.prog 60 #[.pointer (some ⟨S.b, 0, none⟩), .int .i64 now] w fun e w' => e = .returned (.tuple #[]) ∧ Rd F S w' (markX S x) ∧ Keep (Out3 F S) w w' := by
 obtain ⟨tv, hM⟩ := h.mem
 have b7 := cellOf h.mach 7 (.pointer (some ⟨S.bx, 0, none⟩)) rfl
 have HR := jA h
 have HLT := jA hl
 rcases hs with h0 | h0
 ·have hx := h.sec
  rw [h0] at hx
  have HQ := jA (step0_calls F w S.bm S.bw S.bs S.bx x.ws x.tr x.bad S.ep S.first S.n tv x.m.slot x.sn hM h.short h.slots h.fs hx h.fx h.n5)
  have e1 : markX S x = { x.acc S.ep with stp := 1, sn := lkV x.ws S.ep } := by rw [markX, if_pos h0]
  rw [e1]
  clear hM h hl hx h0 e1
  go_enter Tryz.func60, Tryz.ntmps60
  go_wp2_with (first | (go_at_call 83; (refine HQ.out.mono ?_); rintro e w1 ⟨rfl, hM1, hK1, hX1⟩; have HM1 := jA hM1; have HK1 := jA hK1; have HX1 := jA hX1; clear hM1 hK1 hX1))
  (try simp only [Exit.inBlock, Exit.then])
  refine bodyPost_ret (results_none rfl _ _ _) rfl ?_
  exact ⟨rfl, rd_sect HR.out HM1.out HK1.out HX1.out (by have := HLT.out; simp [X.acc]; omega), HK1.out.less (fun k hk => ⟨hk.1, hk.2.2⟩)⟩
 ·have hx := h.sec
  rw [h0] at hx
  have HQ := jA (step1_calls F w S.bm S.bw S.bs S.bx x.ws x.tr x.bad S.ep S.first S.n tv x.m.slot x.sn hM h.short h.slots h.fs hx h.fx h.n5)
  have e1 : markX S x = { X.tel S x x.sn with stp := 2, m := { x.m with next := some (if S.flaw = 4 then 84 else 61) } } := by rw [markX, if_neg (by rw [h0]; decide)]
  rw [e1]
  clear hM h hl hx h0 e1
  have aft : ∀ w1, Rd F S w1 { X.tel S x x.sn with stp := 2 } → (w1.cell? ⟨S.b, 8, none⟩ = some (nextV S.b x.m.next) ∧ w1.frozen? ⟨S.b, 8, none⟩ = false ∧ (w1.setCell ⟨S.b, 8, none⟩ (.func (.func 61) #[.pointer (some ⟨S.b, 0, none⟩)] #[])).cell? ⟨S.b, 0, none⟩ = some (.pointer (some ⟨S.bsite, 0, none⟩)) ∧
    (w1.setCell ⟨S.b, 8, none⟩ (.func (.func 61) #[.pointer (some ⟨S.b, 0, none⟩)] #[])).cell? ⟨S.bsite, 3, none⟩ = some (.int .i64 S.flaw) ∧ (w1.setCell ⟨S.b, 8, none⟩ (.func (.func 61) #[.pointer (some ⟨S.b, 0, none⟩)] #[])).cell? ⟨S.b, 8, none⟩ = some (.func (.func 61) #[.pointer (some ⟨S.b, 0, none⟩)] #[]) ∧
    (w1.setCell ⟨S.b, 8, none⟩ (.func (.func 61) #[.pointer (some ⟨S.b, 0, none⟩)] #[])).frozen? ⟨S.b, 8, none⟩ = false) := fun w1 r => by
   have k1 := blk_set r.mach 8 (.func (.func 61) #[.pointer (some ⟨S.b, 0, none⟩)] #[])
   exact ⟨cellOf r.mach 8 _ rfl, MPut.frozen_of_row r.mach 8, cellOf k1 0 _ rfl, cellOf (((((Only.refl S.b w1).setCell 8 _).at_ _ r.n1)).trans r.site) 3 _ rfl, cellOf k1 8 _ rfl, MPut.frozen_of_row k1 8⟩
  have HAFT := jA aft
  clear aft
  by_cases hf : S.flaw = 4
  ·rw [if_pos hf]
   go_enter Tryz.func60, Tryz.ntmps60
   go_wp2_with (first | (go_at_call 83; (refine HQ.out.mono ?_); rintro e w1 ⟨rfl, hM1, hK1, hX1⟩; have HR1 := jA (rd_sect HR.out hM1 hK1 hX1 (by have := HLT.out; simp; omega)); obtain ⟨a1, a2, a3, a4, a5, a6⟩ := HAFT.out w1 HR1.out; have HK1 := jA hK1; clear hM1 hK1 hX1))
   go_end0
   exact ⟨rfl, HR1.out.put (((Only.refl S.b _).setCell 8 _).setCell 8 _) (blk_set (blk_set HR1.out.mach 8 _) 8 (.func (.func 84) #[.pointer (some ⟨S.b, 0, none⟩)] #[])) rfl, (HK1.out.less (fun k hk => ⟨hk.1, hk.2.2⟩)).trans (((((Only.refl S.b _).setCell 8 _).setCell 8 _).keep F).less (fun k hk => ⟨hk.1, hk.2.1⟩))⟩
  ·rw [if_neg hf]
   go_enter Tryz.func60, Tryz.ntmps60
   go_wp2_with (first | (go_at_call 83; (refine HQ.out.mono ?_); rintro e w1 ⟨rfl, hM1, hK1, hX1⟩; have HR1 := jA (rd_sect HR.out hM1 hK1 hX1 (by have := HLT.out; simp; omega)); obtain ⟨a1, a2, a3, a4, a5, a6⟩ := HAFT.out w1 HR1.out; have HK1 := jA hK1; clear hM1 hK1 hX1))
   go_end0
   exact ⟨rfl, HR1.out.put ((Only.refl S.b _).setCell 8 _) (blk_set HR1.out.mach 8 (.func (.func 61) #[.pointer (some ⟨S.b, 0, none⟩)] #[])) rfl, (HK1.out.less (fun k hk => ⟨hk.1, hk.2.2⟩)).trans ((((Only.refl S.b _).setCell 8 _).keep F).less (fun k hk => ⟨hk.1, hk.2.1⟩))⟩
end Go.Proofs.YtdgkppldopiaoaaGreat.RSteps
/- reader.Machine's key, seek, table, width, number, walked. -/
namespace Go.Proofs.YtdgkppldopiaoaaGreat.RSeek
open Go.RowKit YtdgkppldopiaoaaGreatW.PrintWords YtdgkppldopiaoaaGreatW.PrintLast YtdgkppldopiaoaaGreatW.PrintMore BMap BRow MLines MPut RMem RCells REpoch RMach RSteps Go.Maps
open PG
set_option maxHeartbeats 1000000
set_option maxRecDepth 100000
def symM (m : Mst) : Int := if m.kind = 0 then m.y0 else if m.kind = 1 then m.y1 else m.y2
def keyM (m : Mst) : Int := wrap64 (wrap64 (wrap64 (symM m * 4) + m.kind) + 1)
def hashI (k t : Int) : Int := Int.tmod (wrap64 (IntKind.u16.wrap (wrap64 (k * 40503)))) t
theorem key_calls (w : World) (b bsite bx : Nat) (m : Mst) (hm : MachAt w b bsite bx m) (hk : m.kind = 0 ∨ m.kind = 1 ∨ m.kind = 2) :
  Calls Tryz.prog 126 #[.pointer (some ⟨b, 0, none⟩)] w fun e w' => e = .returned (.int .i64 (keyM m)) ∧ Still w w' := by
 have c16 := cellOf hm 16 (.int .i64 m.kind) rfl
 rcases hk with hk | hk | hk
 ·have e1 : keyM m = wrap64 (wrap64 (wrap64 (m.y0 * 4)) + 1) := by simp [keyM, symM, hk]
  have c4 := cellOf hm 4 (.int .i64 m.y0) rfl
  rw [hk] at c16
  rw [e1]
  simp only [← i64_w]
  clear hm e1 hk
  go_enter Tryz.func126, Tryz.ntmps126
  go_upto_region 1 with fail
  refine start_ (n := 17) (S := fun w' => w'.cell? ⟨b, 16, none⟩ = some (.int .i64 0) ∧ w'.cell? ⟨b, 4, none⟩ = some (.int .i64 m.y0)) (ds := []) (Jb 17 0) (by kernel_rfl) rfl (by kernel_rfl) ⟨c16, c4⟩ (fun hHeld => ?_)
  refine Jp 0 3 (Jb 17 1) rfl rfl ?_
  refine Jp 1 4 (Jb 17 3) rfl rfl ?_
  refine Jp 2 5 (Jb 17 7) rfl rfl ?_
  refine Jp 3 6 (Jb 17 15) rfl rfl ?_
  refine Jk 4 7 (Jb 17 31) rfl rfl hHeld (.inl ⟨by rfl, by rintro w' ⟨s0, s1⟩; go_simp; with_reducible rfl⟩) ?_
  refine Jp 5 8 (Jb 17 63) rfl rfl ?_
  refine Jp 6 9 (Jb 17 127) rfl rfl ?_
  refine Jp 7 10 (Jb 17 255) rfl rfl ?_
  refine Jk 8 11 (Jb 17 511) rfl rfl hHeld (.inl ⟨by rfl, by rintro w' ⟨s0, s1⟩; go_simp; with_reducible rfl⟩) ?_
  refine Jp 9 12 (Jb 17 1023) rfl rfl ?_
  refine Jp 10 13 (Jb 17 2047) rfl rfl ?_
  refine Jp 11 14 (Jb 17 4095) rfl rfl ?_
  refine Jp 12 15 (Jb 17 8191) rfl rfl ?_
  refine Jk 13 16 (Jb 17 16383) rfl rfl hHeld (.inl ⟨by rfl, by rintro w' ⟨s0, s1⟩; go_simp; with_reducible rfl⟩) ?_
  refine Jp 14 17 (Jb 17 32767) rfl rfl ?_
  refine Jp 15 18 (Jb 17 65535) rfl rfl ?_
  refine Jp 16 2 (Jb 17 131071) rfl rfl ?_
  refine done_ (by kernel_rfl) ?_
  go_wp2
  go_ret
  exact ⟨rfl, rfl, rfl, rfl, rfl⟩
 ·have e1 : keyM m = wrap64 (wrap64 (wrap64 (m.y1 * 4) + 1) + 1) := by simp [keyM, symM, hk]
  have c4 := cellOf hm 5 (.int .i64 m.y1) rfl
  rw [hk] at c16
  rw [e1]
  simp only [← i64_w]
  clear hm e1 hk
  go_enter Tryz.func126, Tryz.ntmps126
  go_upto_region 1 with fail
  refine start_ (n := 17) (S := fun w' => w'.cell? ⟨b, 16, none⟩ = some (.int .i64 1) ∧ w'.cell? ⟨b, 5, none⟩ = some (.int .i64 m.y1)) (ds := []) (Jb 17 0) (by kernel_rfl) rfl (by kernel_rfl) ⟨c16, c4⟩ (fun hHeld => ?_)
  refine Jp 0 3 (Jb 17 1) rfl rfl ?_
  refine Jp 1 4 (Jb 17 3) rfl rfl ?_
  refine Jp 2 5 (Jb 17 7) rfl rfl ?_
  refine Jp 3 6 (Jb 17 15) rfl rfl ?_
  refine Jk 4 7 (Jb 17 31) rfl rfl hHeld (.inl ⟨by rfl, by rintro w' ⟨s0, s1⟩; go_simp; with_reducible rfl⟩) ?_
  refine Jp 5 8 (Jb 17 63) rfl rfl ?_
  refine Jp 6 9 (Jb 17 127) rfl rfl ?_
  refine Jp 7 10 (Jb 17 255) rfl rfl ?_
  refine Jk 8 11 (Jb 17 511) rfl rfl hHeld (.inl ⟨by rfl, by rintro w' ⟨s0, s1⟩; go_simp; with_reducible rfl⟩) ?_
  refine Jp 9 12 (Jb 17 1023) rfl rfl ?_
  refine Jp 10 13 (Jb 17 2047) rfl rfl ?_
  refine Jp 11 14 (Jb 17 4095) rfl rfl ?_
  refine Jp 12 15 (Jb 17 8191) rfl rfl ?_
  refine Jk 13 16 (Jb 17 16383) rfl rfl hHeld (.inl ⟨by rfl, by rintro w' ⟨s0, s1⟩; go_simp; with_reducible rfl⟩) ?_
  refine Jp 14 17 (Jb 17 32767) rfl rfl ?_
  refine Jp 15 18 (Jb 17 65535) rfl rfl ?_
  refine Jp 16 2 (Jb 17 131071) rfl rfl ?_
  refine done_ (by kernel_rfl) ?_
  go_wp2
  go_ret
  exact ⟨rfl, rfl, rfl, rfl, rfl⟩
 ·have e1 : keyM m = wrap64 (wrap64 (wrap64 (m.y2 * 4) + 2) + 1) := by simp [keyM, symM, hk]
  have c4 := cellOf hm 6 (.int .i64 m.y2) rfl
  rw [hk] at c16
  rw [e1]
  simp only [← i64_w]
  clear hm e1 hk
  go_enter Tryz.func126, Tryz.ntmps126
  go_upto_region 1 with fail
  refine start_ (n := 17) (S := fun w' => w'.cell? ⟨b, 16, none⟩ = some (.int .i64 2) ∧ w'.cell? ⟨b, 6, none⟩ = some (.int .i64 m.y2)) (ds := []) (Jb 17 0) (by kernel_rfl) rfl (by kernel_rfl) ⟨c16, c4⟩ (fun hHeld => ?_)
  refine Jp 0 3 (Jb 17 1) rfl rfl ?_
  refine Jp 1 4 (Jb 17 3) rfl rfl ?_
  refine Jp 2 5 (Jb 17 7) rfl rfl ?_
  refine Jp 3 6 (Jb 17 15) rfl rfl ?_
  refine Jk 4 7 (Jb 17 31) rfl rfl hHeld (.inl ⟨by rfl, by rintro w' ⟨s0, s1⟩; go_simp; with_reducible rfl⟩) ?_
  refine Jp 5 8 (Jb 17 63) rfl rfl ?_
  refine Jp 6 9 (Jb 17 127) rfl rfl ?_
  refine Jp 7 10 (Jb 17 255) rfl rfl ?_
  refine Jk 8 11 (Jb 17 511) rfl rfl hHeld (.inl ⟨by rfl, by rintro w' ⟨s0, s1⟩; go_simp; with_reducible rfl⟩) ?_
  refine Jp 9 12 (Jb 17 1023) rfl rfl ?_
  refine Jp 10 13 (Jb 17 2047) rfl rfl ?_
  refine Jp 11 14 (Jb 17 4095) rfl rfl ?_
  refine Jp 12 15 (Jb 17 8191) rfl rfl ?_
  refine Jk 13 16 (Jb 17 16383) rfl rfl hHeld (.inl ⟨by rfl, by rintro w' ⟨s0, s1⟩; go_simp; with_reducible rfl⟩) ?_
  refine Jp 14 17 (Jb 17 32767) rfl rfl ?_
  refine Jp 15 18 (Jb 17 65535) rfl rfl ?_
  refine Jp 16 2 (Jb 17 131071) rfl rfl ?_
  refine done_ (by kernel_rfl) ?_
  go_wp2
  go_ret
  exact ⟨rfl, rfl, rfl, rfl, rfl⟩
theorem rd_still {F : Nat → Prop} {S : Sh} {w w1 : World} {x : X} (h : Rd F S w x) (hh : Still w w1) : Rd F S w1 x :=
 h.put (m := x.m) ⟨by rw [hh.heap], fun k _ => by rw [hh.heap], hh.ext⟩ (by unfold MachAt; rw [hh.heap]; exact h.mach) rfl
theorem cell_still {w w1 : World} (hh : Still w w1) {a : Addr} {v : Value} (h : w.cell? a = some v) : w1.cell? a = some v := by rw [World.cell?_of_block (w := w) (by rw [hh.heap])]; exact h
theorem hash_go (k t : Int) (ht : 2 ≤ t) (w : World) : Calls Tryz.prog 68 #[.int .i64 k, .int .i64 t] w fun e w' => e = .returned (.int .i64 (hashI k t)) ∧ Still w w' := by
 have hf : page_Hash.f k t = some (hashI k t) := by unfold page_Hash.f; rw [if_neg (by omega), if_neg (by omega)]; rfl
 exact (page_Hash.calls k t _ w hf).mono fun e w' ⟨h1, n, h2⟩ => ⟨h1, by rw [h2]; exact ⟨rfl, rfl, rfl, rfl⟩⟩
def seekX (k : Int) (x : X) : X :=
 { x with m := { x.m with kind := k, seen := 0, place := hashI (keyM { x.m with kind := k, seen := 0 }) x.m.size, next := some 127 } }
theorem seek_calls (F : Nat → Prop) (S : Sh) (w : World) (x : X) (k : Int) (h : Rd F S w x) (hk : k = 0 ∨ k = 1 ∨ k = 2) (hs : 2 ≤ x.m.size) :
  Calls Tryz.prog 119 #[.pointer (some ⟨S.b, 0, none⟩), .int .i64 k] w fun e w' => e = .returned (.tuple #[]) ∧ Rd F S w' (seekX k x) ∧ Keep (Out F S.b) w w' := by
 have c1 := cellOf h.mach 16 (.int .i64 x.m.kind) rfl
 have g1 := MPut.frozen_of_row h.mach 16
 have k1 := blk_set h.mach 16 (.int .i64 k)
 obtain ⟨w1, hw1⟩ : ∃ v, v = w.setCell ⟨S.b, 16, none⟩ (.int .i64 k) := ⟨_, rfl⟩
 have o1 : Only S.b w w1 := by rw [hw1]; exact (Only.refl S.b w).setCell 16 _
 rw [← hw1] at k1
 have c2 := cellOf k1 18 (.int .i64 x.m.seen) rfl
 have g2 := MPut.frozen_of_row k1 18
 have k2 := blk_set k1 18 (.int .i64 0)
 obtain ⟨w2, hw2⟩ : ∃ v, v = w1.setCell ⟨S.b, 18, none⟩ (.int .i64 0) := ⟨_, rfl⟩
 have o2 : Only S.b w w2 := by rw [hw2]; exact (o1).setCell 18 _
 rw [← hw2] at k2
 have HKEY := jA (key_calls w2.drew S.b S.bsite S.bx { x.m with kind := k, seen := 0 } k2 hk)
 have HHASH := jA (fun wq => hash_go (keyM { x.m with kind := k, seen := 0 }) x.m.size hs wq)
 have c15 := cellOf k2 15 (.int .i64 x.m.size) rfl
 have c17 := cellOf k2 17 (.int .i64 x.m.place) rfl
 have g17 := MPut.frozen_of_row k2 17
 have HK2 := jA (show MachAt w2 S.b S.bsite S.bx { x.m with kind := k, seen := 0 } from k2)
 have HO2 := jA o2
 have HR := jA h
 obtain ⟨key, hkey⟩ : ∃ v, v = keyM { x.m with kind := k, seen := 0 } := ⟨_, rfl⟩
 obtain ⟨pl, hpl⟩ : ∃ v, v = hashI key x.m.size := ⟨_, rfl⟩
 have e1 : seekX k x = { x with m := { x.m with kind := k, seen := 0, place := pl, next := some 127 } } := by rw [hpl, hkey]; rfl
 rw [← hkey] at HKEY HHASH
 rw [← hpl] at HHASH
 rw [e1]
 clear h hs hk k1 k2 o1 o2 e1 hkey hpl
 subst hw2
 subst hw1
 go_enter Tryz.func119, Tryz.ntmps119
 go_upto_region 1 with fail
 obtain ⟨w2, hw2⟩ : ∃ v, v = (w.setCell ⟨S.b, 16, none⟩ (.int .i64 k)).setCell ⟨S.b, 18, none⟩ (.int .i64 0) := ⟨_, rfl⟩
 rw [← hw2] at c15 c17 g17 HK2 HO2 HKEY ⊢
 clear hw2 c1 g1 c2 g2
 refine start_ (n := 11) (S := fun w' => Still w2.drew w') (ds := [10]) (Jb 11 0) (by kernel_rfl) rfl (by kernel_rfl) ⟨rfl, rfl, rfl, rfl⟩ (fun hHeld => ?_)
 refine Jp 0 11 (Jb 11 1) rfl rfl ?_
 refine Jp 1 12 (Jb 11 3) rfl rfl ?_
 refine Jp 3 14 (Jb 11 11) rfl rfl ?_
 refine Jp 4 15 (Jb 11 27) rfl rfl ?_
 refine Jp 5 16 (Jb 11 59) rfl rfl ?_
 refine Jk 6 17 (Jb 11 123) rfl rfl hHeld (.inl ⟨by rfl, by rintro w' s0; have c := cell_still s0 (show w2.drew.cell? ⟨S.b, 15, none⟩ = _ from c15); go_simp; with_reducible rfl⟩) ?_
 refine one_ (i := 2) (N := some 13) (Jb 11 127) rfl rfl (by kernel_rfl) (by decide) (fun K hK => ?_)
 refine goes_ Tryz.func126 (by kernel_rfl) rfl #[.pointer (some ⟨S.b, 0, none⟩)] (by rfl) rfl rfl (by (try simp only [List.map_toArray, List.map_cons, List.map_nil]); first | done | rfl) ?_
 refine HKEY.out.mono ?_
 rintro e w4 ⟨rfl, hh4⟩
 refine ⟨_, rfl, ?_⟩
 refine hK.out _ _ hh4 (fun hHeld => ?_)
 clear hK K
 refine norm_ (a' := ?_) ?_ ?_; rotate_left; (show Act.put _ (some 13) _ = _; simp only [Act.put, Jq, Jr, Js]; rfl)
 refine one_ (i := 7) (N := some 18) (Jb 11 255) rfl rfl (by kernel_rfl) (by decide) (fun K hK => ?_)
 refine goes_ Tryz.func68 (by kernel_rfl) rfl #[.int .i64 key, .int .i64 x.m.size] (by rfl) rfl rfl (by (try simp only [List.map_toArray, List.map_cons, List.map_nil]); first | done | rfl) ?_
 refine (HHASH.out _).mono ?_
 rintro e w5 ⟨rfl, hh5'⟩
 refine ⟨_, rfl, ?_⟩
 have hh5 : Still w2.drew w5 := Still.trans hh4 hh5'
 refine hK.out _ _ hh5 (fun hHeld => ?_)
 clear hK K hh5'
 refine norm_ (a' := ?_) ?_ ?_; rotate_left; (show Act.put _ (some 18) _ = _; simp only [Act.put, Jq, Jr, Js]; rfl)
 refine Jp 8 19 (Jb 11 511) rfl rfl ?_
 refine Jp 9 20 (Jb 11 1023) rfl rfl ?_
 refine last_ (i := 10) (N := none) (Jb 11 2047) rfl rfl (by kernel_rfl) (by decide) (fun K hK => ?_)
 refine GDiffer.step_skip (w' := w5.setCell ⟨S.b, 17, none⟩ (.int .i64 pl)) rfl rfl (by have hst := store_int (v := pl) (cell_still hh5 (show w2.drew.cell? ⟨S.b, 17, none⟩ = _ from c17)) (show w5.frozen? ⟨S.b, 17, none⟩ = false by simp only [World.frozen?, hh5.heap]; exact g17); simp [execOp, Act.eval, hst]) ?_
 refine hK.out _ _ ?_
 clear hK K
 refine done_ (by kernel_rfl) ?_
 have k5 : MachAt w5 S.b S.bsite S.bx { x.m with kind := k, seen := 0 } := by rw [MachAt, hh5.heap]; exact HK2.out
 have k6 := blk_set k5 17 (.int .i64 pl)
 have o6 : Only S.b w (w5.setCell ⟨S.b, 17, none⟩ (.int .i64 pl)) := by
  refine Only.setCell ⟨by rw [hh5.heap]; exact HO2.out.size, fun q hq => ?_, Ext.trans HO2.out.ext hh5.ext⟩ 17 _
  rw [hh5.heap]; exact HO2.out.at_ q hq
 obtain ⟨w6, hw6⟩ : ∃ v, v = w5.setCell ⟨S.b, 17, none⟩ (.int .i64 pl) := ⟨_, rfl⟩
 rw [← hw6] at k6 o6 ⊢
 have c8 := cellOf k6 8 (nextV S.b x.m.next) rfl
 have g8 := MPut.frozen_of_row k6 8
 have HK6 := jA k6
 have HO6 := jA o6
 clear hw6 k5 k6 o6 c15 c17 g17
 go_wp2
 go_end0
 exact ⟨rfl, HR.out.put (HO6.out.setCell 8 _) (blk_set HK6.out 8 (.func (.func 127) #[.pointer (some ⟨S.b, 0, none⟩)] #[])) rfl, (HO6.out.setCell 8 _).keep F⟩
end Go.Proofs.YtdgkppldopiaoaaGreat.RSeek
/- reader.Machine's width, number, table, walked. -/
namespace Go.Proofs.YtdgkppldopiaoaaGreat.RLook
open Go.RowKit YtdgkppldopiaoaaGreatW.PrintWords YtdgkppldopiaoaaGreatW.PrintLast YtdgkppldopiaoaaGreatW.PrintMore BMap BRow MLines MPut RMem RCells REpoch RMach RSteps RSeek Go.Maps
open PG
set_option maxHeartbeats 1000000
set_option maxRecDepth 100000
def X.at_ (x : X) (a : Int) (good : X → Int → X) : X := if lkE x.ws a = 0 then good (x.acc a) (lkV x.ws a) else { x.acc a with m := brk x.m }
def widthX (x : X) : X := X.at_ x (wrap64 (x.m.page + 3)) fun y c => { y with m := { x.m with cols := c, next := some 142 } }
theorem width_calls (F : Nat → Prop) (S : Sh) (w : World) (x : X) (now : Int) (h : Rd F S w x) (hl : x.tr.length < 1000000000000) :
  Calls Tryz.prog 139 #[.pointer (some ⟨S.b, 0, none⟩), .int .i64 now] w fun e w' => e = .returned (.tuple #[]) ∧ Rd F S w' (widthX x) ∧ Keep (Out F S.b) w w' := by
 have b14 := cellOf h.mach 14 (.int .i64 x.m.page) rfl
 by_cases h0 : lkE x.ws (wrap64 (x.m.page + 3)) = 0
 ·have e1 : widthX x = { x.acc (wrap64 (x.m.page + 3)) with m := { x.m with cols := lkV x.ws (wrap64 (x.m.page + 3)), next := some 142 } } := by simp only [widthX, X.at_, if_pos h0]
  rw [e1]
  have HQ := jA (mload_ok F S w x (wrap64 (x.m.page + 3)) h hl h0)
  obtain ⟨v, hv⟩ : ∃ v, v = lkV x.ws (wrap64 (x.m.page + 3)) := ⟨_, rfl⟩
  obtain ⟨y, hy⟩ : ∃ y, y = x.acc (wrap64 (x.m.page + 3)) := ⟨_, rfl⟩
  have hym : y.m = x.m := by rw [hy]; rfl
  rw [← hv, ← hy] at HQ
  rw [← hv, ← hy, ← hym]
  clear h hl h0 e1 hv hy
  have aft : ∀ w1, Rd F S w1 y → (w1.cell? ⟨S.b, 22, none⟩ = some (.int .i64 y.m.cols) ∧ w1.frozen? ⟨S.b, 22, none⟩ = false ∧ (w1.setCell ⟨S.b, 22, none⟩ (.int .i64 v)).cell? ⟨S.b, 8, none⟩ = some (nextV S.b y.m.next) ∧ (w1.setCell ⟨S.b, 22, none⟩ (.int .i64 v)).frozen? ⟨S.b, 8, none⟩ = false) := fun w1 r => by
   have k1 := blk_set r.mach 22 (.int .i64 v)
   exact ⟨cellOf r.mach 22 _ rfl, MPut.frozen_of_row r.mach 22, cellOf k1 8 _ rfl, MPut.frozen_of_row k1 8⟩
  have HAFT := jA aft
  clear aft hym
  go_enter Tryz.func139, Tryz.ntmps139
  go_wp2_with (first | (go_at_call 85; (refine HQ.out.mono ?_); rintro e w1 ⟨rfl, hR1, hK1⟩; have HR1 := jA hR1; have HK1 := jA hK1; obtain ⟨a1, a2, a3, a4⟩ := HAFT.out w1 hR1; clear hR1 hK1))
  go_end0
  exact ⟨rfl, HR1.out.put (((Only.refl S.b _).setCell 22 _).setCell 8 _) (blk_set (blk_set HR1.out.mach 22 _) 8 (.func (.func 142) #[.pointer (some ⟨S.b, 0, none⟩)] #[])) rfl, HK1.out.trans ((((Only.refl S.b _).setCell 22 _).setCell 8 _).keep F)⟩
 ·have e1 : widthX x = { x.acc (wrap64 (x.m.page + 3)) with m := brk x.m } := by simp only [widthX, X.at_, if_neg h0]
  rw [e1]
  have HQ := jA (mload_bad F S w x (wrap64 (x.m.page + 3)) h hl h0)
  clear h hl h0 e1
  go_enter Tryz.func139, Tryz.ntmps139
  go_wp2_with (first | (go_at_call 85; (refine HQ.out.mono ?_); rintro e w1 ⟨rfl, hR1, hK1⟩; have HR1 := jA hR1; have HK1 := jA hK1; clear hR1 hK1))
  go_end0
  exact ⟨rfl, HR1.out, HK1.out⟩
def tableX (x : X) : X := X.at_ x (wrap64 (x.m.page + 1)) fun y t => if t < 2 ∨ 4096 < t ∨ bits .and .i64 t (t - 1) ≠ 0 then { y with m := brk y.m } else seekX 0 { y with m := { y.m with size := t } }
theorem table_calls (F : Nat → Prop) (S : Sh) (w : World) (x : X) (now : Int) (h : Rd F S w x) (hl : x.tr.length < 1000000000000) :
  Calls Tryz.prog 106 #[.pointer (some ⟨S.b, 0, none⟩), .int .i64 now] w fun e w' => e = .returned (.tuple #[]) ∧ Rd F S w' (tableX x) ∧ Keep (Out F S.b) w w' := by
 have b14 := cellOf h.mach 14 (.int .i64 x.m.page) rfl
 by_cases h0 : lkE x.ws (wrap64 (x.m.page + 1)) = 0
 ·obtain ⟨v, hv⟩ : ∃ v, v = lkV x.ws (wrap64 (x.m.page + 1)) := ⟨_, rfl⟩
  obtain ⟨y, hy⟩ : ∃ y, y = x.acc (wrap64 (x.m.page + 1)) := ⟨_, rfl⟩
  have e1 : tableX x = if v < 2 ∨ 4096 < v ∨ bits .and .i64 v (v - 1) ≠ 0 then { y with m := brk y.m } else seekX 0 { y with m := { y.m with size := v } } := by simp only [tableX, X.at_, if_pos h0, hv, hy]
  rw [e1]
  have HQ := jA (mload_ok F S w x (wrap64 (x.m.page + 1)) h hl h0)
  rw [← hv, ← hy] at HQ
  clear h hl h0 e1 hv hy
  by_cases h2 : v < 2
  ·rw [if_pos (.inl h2)]
   go_enter Tryz.func106, Tryz.ntmps106
   go_wp2_with (first | (go_at_call 85; (refine HQ.out.mono ?_); rintro e w1 ⟨rfl, hR1, hK1⟩; have HR1 := jA hR1; have HK1 := jA hK1; clear hR1 hK1) | (go_at_call 107; (refine (broken_calls _ S.b S.bsite S.bx y.m HR1.out.mach).mono ?_); rintro e w2 ⟨rfl, hm2, hO2⟩; have HR2 := jA (HR1.out.put hO2 hm2 rfl); have HK2 := jA (hO2.keep F); clear hm2 hO2))
   (try simp only [Exit.inBlock, Exit.then])
   refine bodyPost_ret (results_none rfl _ _ _) rfl ?_
   exact ⟨rfl, HR2.out, HK1.out.trans HK2.out⟩
  by_cases h3 : 4096 < v
  ·rw [if_pos (.inr (.inl h3))]
   go_enter Tryz.func106, Tryz.ntmps106
   go_wp2_with (first | (go_at_call 85; (refine HQ.out.mono ?_); rintro e w1 ⟨rfl, hR1, hK1⟩; have HR1 := jA hR1; have HK1 := jA hK1; clear hR1 hK1) | (go_at_call 107; (refine (broken_calls _ S.b S.bsite S.bx y.m HR1.out.mach).mono ?_); rintro e w2 ⟨rfl, hm2, hO2⟩; have HR2 := jA (HR1.out.put hO2 hm2 rfl); have HK2 := jA (hO2.keep F); clear hm2 hO2))
   (try simp only [Exit.inBlock, Exit.then])
   refine bodyPost_ret (results_none rfl _ _ _) rfl ?_
   exact ⟨rfl, HR2.out, HK1.out.trans HK2.out⟩
  by_cases h4 : bits .and .i64 v (v - 1) = 0
  ·rw [if_neg (fun q => q.elim h2 (fun q => q.elim h3 (fun q => q h4)))]
   have aft : ∀ w1, Rd F S w1 y → (w1.cell? ⟨S.b, 15, none⟩ = some (.int .i64 y.m.size) ∧ w1.frozen? ⟨S.b, 15, none⟩ = false ∧ Rd F S (w1.setCell ⟨S.b, 15, none⟩ (.int .i64 v)) { y with m := { y.m with size := v } } ∧ Keep (Out F S.b) w1 (w1.setCell ⟨S.b, 15, none⟩ (.int .i64 v))) := fun w1 r =>
    ⟨cellOf r.mach 15 _ rfl, MPut.frozen_of_row r.mach 15, r.put ((Only.refl S.b _).setCell 15 _) (blk_set r.mach 15 (.int .i64 v)) rfl, ((Only.refl S.b _).setCell 15 _).keep F⟩
   have HAFT := jA aft
   have HV := jA (show 2 ≤ v by omega)
   clear aft
   go_enter Tryz.func106, Tryz.ntmps106
   go_wp2_with (first | (go_at_call 85; (refine HQ.out.mono ?_); rintro e w1 ⟨rfl, hR1, hK1⟩; obtain ⟨a1, a2, hR2, hK2⟩ := HAFT.out w1 hR1; have HR2 := jA hR2; have HK1 := jA (hK1.trans hK2); clear hR1 hK1 hR2 hK2) | (go_at_call 119; (refine (seek_calls F S _ { y with m := { y.m with size := v } } 0 HR2.out (.inl rfl) HV.out).mono ?_); rintro e w2 ⟨rfl, hR3, hK3⟩; have HR3 := jA hR3; have HK3 := jA hK3; clear hR3 hK3))
   go_end0
   exact ⟨rfl, HR3.out, HK1.out.trans HK3.out⟩
  ·rw [if_pos (.inr (.inr h4))]
   have h5 : (bits .and .i64 v (v - 1) != 0) = true := by simpa using h4
   go_enter Tryz.func106, Tryz.ntmps106
   go_wp2_with (first | (go_at_call 85; (refine HQ.out.mono ?_); rintro e w1 ⟨rfl, hR1, hK1⟩; have HR1 := jA hR1; have HK1 := jA hK1; clear hR1 hK1) | (go_at_call 107; (refine (broken_calls _ S.b S.bsite S.bx y.m HR1.out.mach).mono ?_); rintro e w2 ⟨rfl, hm2, hO2⟩; have HR2 := jA (HR1.out.put hO2 hm2 rfl); have HK2 := jA (hO2.keep F); clear hm2 hO2))
   (try simp only [Exit.inBlock, Exit.then])
   refine bodyPost_ret (results_none rfl _ _ _) rfl ?_
   exact ⟨rfl, HR2.out, HK1.out.trans HK2.out⟩
 ·have e1 : tableX x = { x.acc (wrap64 (x.m.page + 1)) with m := brk x.m } := by simp only [tableX, X.at_, if_neg h0]
  rw [e1]
  have HQ := jA (mload_bad F S w x (wrap64 (x.m.page + 1)) h hl h0)
  clear h hl h0 e1
  go_enter Tryz.func106, Tryz.ntmps106
  go_wp2_with (first | (go_at_call 85; (refine HQ.out.mono ?_); rintro e w1 ⟨rfl, hR1, hK1⟩; have HR1 := jA hR1; have HK1 := jA hK1; clear hR1 hK1))
  (try simp only [Exit.inBlock, Exit.then])
  refine bodyPost_ret (results_none rfl _ _ _) rfl ?_
  exact ⟨rfl, HR1.out, HK1.out⟩
end Go.Proofs.YtdgkppldopiaoaaGreat.RLook
/- reader.Machine's number, walked. -/
namespace Go.Proofs.YtdgkppldopiaoaaGreat.RNum
open Go.RowKit YtdgkppldopiaoaaGreatW.PrintWords YtdgkppldopiaoaaGreatW.PrintLast YtdgkppldopiaoaaGreatW.PrintMore BMap BRow MLines MPut RMem RCells REpoch RMach RSteps RSeek RLook Go.Maps
open PG
set_option maxHeartbeats 1000000
set_option maxRecDepth 100000
def slotA (k : Int) (m : Mst) : Int := wrap64 (wrap64 (m.page + k) + wrap64 (2 * m.place))
def setF (m : Mst) (v : Int) : Mst := if m.kind = 0 then { m with f0 := v } else if m.kind = 1 then { m with f1 := v } else { m with f2 := v }
def numberX (x : X) : X := X.at_ x (slotA 5 x.m) fun y v => if y.m.kind < 2 then seekX (y.m.kind + 1) { y with m := setF y.m v } else { y with m := { setF y.m v with next := some 139 } }
theorem number_calls (F : Nat → Prop) (S : Sh) (w : World) (x : X) (now : Int) (h : Rd F S w x) (hl : x.tr.length < 1000000000000) (hk : x.m.kind = 0 ∨ x.m.kind = 1 ∨ x.m.kind = 2) (hs : 2 ≤ x.m.size) :
  Calls Tryz.prog 133 #[.pointer (some ⟨S.b, 0, none⟩), .int .i64 now] w fun e w' => e = .returned (.tuple #[]) ∧ Rd F S w' (numberX x) ∧ Keep (Out F S.b) w w' := by
 have b14 := cellOf h.mach 14 (.int .i64 x.m.page) rfl
 have b17 := cellOf h.mach 17 (.int .i64 x.m.place) rfl
 have hA : slotA 5 x.m = IntKind.i64.wrap (IntKind.i64.wrap (x.m.page + 5) + IntKind.i64.wrap (2 * x.m.place)) := by simp only [slotA, i64_w]
 have HK0 := jA (((Keep.refl F w).below (below_drew (Below.refl _ _))).less (G := Out F S.b) (fun k hk => hk.1))
 by_cases h0 : lkE x.ws (slotA 5 x.m) = 0
 ·obtain ⟨v, hv⟩ : ∃ v, v = lkV x.ws (slotA 5 x.m) := ⟨_, rfl⟩
  obtain ⟨y, hy⟩ : ∃ y, y = x.acc (slotA 5 x.m) := ⟨_, rfl⟩
  have hym : y.m = x.m := by rw [hy]; rfl
  have e1 : numberX x = if y.m.kind < 2 then seekX (y.m.kind + 1) { y with m := setF y.m v } else { y with m := { setF y.m v with next := some 139 } } := by simp only [numberX, X.at_, if_pos h0, hv, hy]
  rw [e1]
  have HQ := jA (mload_ok F S w.drew x (slotA 5 x.m) h.drew hl h0)
  rw [← hv, ← hy, hA] at HQ
  have hk' := hk
  have HS := jA (show 2 ≤ y.m.size by rw [hym]; exact hs)
  rw [← hym] at hk'
  clear h hl h0 e1 hv hy hA hs hk
  rcases hk' with hk | hk | hk
  ·have e2 : setF y.m v = { y.m with f0 := v } := by simp [setF, hk]
   rw [e2, hk]
   rw [if_pos (by decide)]
   go_enter Tryz.func133, Tryz.ntmps133
   go_upto_region 0 with fail
   refine start_ (n := 19) (S := fun w' => w'.cell? ⟨S.b, 14, none⟩ = some (.int .i64 x.m.page) ∧ w'.cell? ⟨S.b, 17, none⟩ = some (.int .i64 x.m.place)) (ds := []) (Jb 19 0) (by kernel_rfl) rfl (by kernel_rfl) ⟨b14, b17⟩ (fun hHeld => ?_)
   refine Jp 0 7 (Jb 19 1) rfl rfl ?_
   refine Jp 1 8 (Jb 19 3) rfl rfl ?_
   refine Jp 2 9 (Jb 19 7) rfl rfl ?_
   refine Jp 3 10 (Jb 19 15) rfl rfl ?_
   refine Jp 4 11 (Jb 19 31) rfl rfl ?_
   refine Jk 5 12 (Jb 19 63) rfl rfl hHeld (.inl ⟨by rfl, by rintro w' ⟨s0, s1⟩; go_simp; with_reducible rfl⟩) ?_
   refine Jp 6 13 (Jb 19 127) rfl rfl ?_
   refine Jp 7 14 (Jb 19 255) rfl rfl ?_
   refine Jp 8 15 (Jb 19 511) rfl rfl ?_
   refine Jp 9 16 (Jb 19 1023) rfl rfl ?_
   refine Jk 10 17 (Jb 19 2047) rfl rfl hHeld (.inl ⟨by rfl, by rintro w' ⟨s0, s1⟩; go_simp; with_reducible rfl⟩) ?_
   refine Jp 11 18 (Jb 19 4095) rfl rfl ?_
   refine Jp 12 19 (Jb 19 8191) rfl rfl ?_
   refine one_ (i := 13) (N := some 20) (Jb 19 16383) rfl rfl (by kernel_rfl) (by decide) (fun K hK => ?_)
   refine goes_ Tryz.func85 (by kernel_rfl) rfl #[.pointer (some ⟨S.b, 0, none⟩), .int .i64 (IntKind.i64.wrap (IntKind.i64.wrap (x.m.page + 5) + IntKind.i64.wrap (2 * x.m.place)))] (by rfl) rfl rfl (by (try simp only [List.map_toArray, List.map_cons, List.map_nil]); first | done | rfl) ?_
   refine HQ.out.mono ?_
   rintro e w1 ⟨rfl, hR1, hK1⟩
   refine ⟨_, rfl, ?_⟩
   have HR1 := jA hR1
   have HK1 := jA (HK0.out.trans hK1)
   refine hK.out _ _ ⟨cellOf hR1.mach 14 (.int .i64 y.m.page) rfl |>.trans (by rw [hym]), cellOf hR1.mach 17 (.int .i64 y.m.place) rfl |>.trans (by rw [hym])⟩ (fun hHeld => ?_)
   clear hK K hR1 hK1
   refine norm_ (a' := ?_) ?_ ?_; rotate_left; (show Act.put _ (some 20) _ = _; simp only [Act.put, Jq, Jr, Js]; rfl)
   refine Jp 14 6 (Jb 19 32767) rfl rfl ?_
   refine Jp 15 21 (Jb 19 65535) rfl rfl ?_
   refine Jp 16 22 (Jb 19 131071) rfl rfl ?_
   refine Jp 17 4 (Jb 19 262143) rfl rfl ?_
   refine Jp 18 5 (Jb 19 524287) rfl rfl ?_
   refine done_ (by kernel_rfl) ?_
   have c16 := cellOf HR1.out.mach 16 (.int .i64 y.m.kind) rfl
   rw [hk] at c16
   clear b14 b17
   go_upto_region 2 with fail
   refine start_ (n := 10) (S := fun w' => w'.cell? ⟨S.b, 16, none⟩ = some (.int .i64 0)) (ds := [9]) (Jb 10 0) (by kernel_rfl) rfl (by kernel_rfl) c16 (fun hHeld => ?_)
   refine Jp 0 25 (Jb 10 1) rfl rfl ?_
   refine Jp 1 26 (Jb 10 3) rfl rfl ?_
   refine Jp 2 27 (Jb 10 7) rfl rfl ?_
   refine Jp 3 28 (Jb 10 15) rfl rfl ?_
   refine Jk 4 29 (Jb 10 31) rfl rfl hHeld (.inl ⟨by rfl, by rintro w' s0; go_simp; with_reducible rfl⟩) ?_
   refine Jp 5 30 (Jb 10 63) rfl rfl ?_
   refine Jp 6 31 (Jb 10 127) rfl rfl ?_
   refine Jp 7 32 (Jb 10 255) rfl rfl ?_
   refine Jp 8 33 (Jb 10 511) rfl rfl ?_
   refine last_ (i := 9) (N := none) (Jb 10 1023) rfl rfl (by kernel_rfl) (by decide) (fun K hK => ?_)
   refine GDiffer.step_skip (w' := w1.drew.setCell ⟨S.b, 19, none⟩ (.int .i64 v)) rfl rfl (by have hst := store_int (v := v) (cellOf HR1.out.drew.mach 19 (.int .i64 y.m.f0) rfl) (MPut.frozen_of_row HR1.out.drew.mach 19); simp [execOp, Act.eval, hst]) ?_
   refine hK.out _ _ ?_
   clear hK K
   refine done_ (by kernel_rfl) ?_
   have hR2 := HR1.out.drew.put ((Only.refl S.b _).setCell 19 _) (m := { y.m with f0 := v }) (blk_set HR1.out.drew.mach 19 (.int .i64 v)) rfl
   have HK2 := jA (HK1.out.trans (((Only.refl S.b w1).drew.setCell 19 (.int .i64 v)).keep F))
   obtain ⟨w3, hw3⟩ : ∃ q, q = w1.drew.setCell ⟨S.b, 19, none⟩ (.int .i64 v) := ⟨_, rfl⟩
   rw [← hw3] at hR2 HK2 ⊢
   have d16 := cellOf hR2.mach 16 (.int .i64 y.m.kind) rfl
   rw [hk] at d16
   have d8 := cellOf hR2.mach 8 (nextV S.b y.m.next) rfl
   have g8 := MPut.frozen_of_row hR2.mach 8
   have HR2 := jA hR2
   clear hR2 hw3 c16
   go_wp2_with (first | (go_at_call 119; (refine (seek_calls F S _ { y with m := { y.m with f0 := v } } 1 HR2.out (by decide) HS.out).mono ?_); rintro e w4 ⟨rfl, hR3, hK3⟩; have HR3 := jA hR3; have HK3 := jA hK3; clear hR3 hK3))
   (try simp only [Exit.inBlock, Exit.then])
   refine bodyPost_ret (results_none rfl _ _ _) rfl ?_
   exact ⟨rfl, HR3.out, HK2.out.trans HK3.out⟩
  ·have e2 : setF y.m v = { y.m with f1 := v } := by simp [setF, hk]
   rw [e2, hk]
   rw [if_pos (by decide)]
   go_enter Tryz.func133, Tryz.ntmps133
   go_upto_region 0 with fail
   refine start_ (n := 19) (S := fun w' => w'.cell? ⟨S.b, 14, none⟩ = some (.int .i64 x.m.page) ∧ w'.cell? ⟨S.b, 17, none⟩ = some (.int .i64 x.m.place)) (ds := []) (Jb 19 0) (by kernel_rfl) rfl (by kernel_rfl) ⟨b14, b17⟩ (fun hHeld => ?_)
   refine Jp 0 7 (Jb 19 1) rfl rfl ?_
   refine Jp 1 8 (Jb 19 3) rfl rfl ?_
   refine Jp 2 9 (Jb 19 7) rfl rfl ?_
   refine Jp 3 10 (Jb 19 15) rfl rfl ?_
   refine Jp 4 11 (Jb 19 31) rfl rfl ?_
   refine Jk 5 12 (Jb 19 63) rfl rfl hHeld (.inl ⟨by rfl, by rintro w' ⟨s0, s1⟩; go_simp; with_reducible rfl⟩) ?_
   refine Jp 6 13 (Jb 19 127) rfl rfl ?_
   refine Jp 7 14 (Jb 19 255) rfl rfl ?_
   refine Jp 8 15 (Jb 19 511) rfl rfl ?_
   refine Jp 9 16 (Jb 19 1023) rfl rfl ?_
   refine Jk 10 17 (Jb 19 2047) rfl rfl hHeld (.inl ⟨by rfl, by rintro w' ⟨s0, s1⟩; go_simp; with_reducible rfl⟩) ?_
   refine Jp 11 18 (Jb 19 4095) rfl rfl ?_
   refine Jp 12 19 (Jb 19 8191) rfl rfl ?_
   refine one_ (i := 13) (N := some 20) (Jb 19 16383) rfl rfl (by kernel_rfl) (by decide) (fun K hK => ?_)
   refine goes_ Tryz.func85 (by kernel_rfl) rfl #[.pointer (some ⟨S.b, 0, none⟩), .int .i64 (IntKind.i64.wrap (IntKind.i64.wrap (x.m.page + 5) + IntKind.i64.wrap (2 * x.m.place)))] (by rfl) rfl rfl (by (try simp only [List.map_toArray, List.map_cons, List.map_nil]); first | done | rfl) ?_
   refine HQ.out.mono ?_
   rintro e w1 ⟨rfl, hR1, hK1⟩
   refine ⟨_, rfl, ?_⟩
   have HR1 := jA hR1
   have HK1 := jA (HK0.out.trans hK1)
   refine hK.out _ _ ⟨cellOf hR1.mach 14 (.int .i64 y.m.page) rfl |>.trans (by rw [hym]), cellOf hR1.mach 17 (.int .i64 y.m.place) rfl |>.trans (by rw [hym])⟩ (fun hHeld => ?_)
   clear hK K hR1 hK1
   refine norm_ (a' := ?_) ?_ ?_; rotate_left; (show Act.put _ (some 20) _ = _; simp only [Act.put, Jq, Jr, Js]; rfl)
   refine Jp 14 6 (Jb 19 32767) rfl rfl ?_
   refine Jp 15 21 (Jb 19 65535) rfl rfl ?_
   refine Jp 16 22 (Jb 19 131071) rfl rfl ?_
   refine Jp 17 4 (Jb 19 262143) rfl rfl ?_
   refine Jp 18 5 (Jb 19 524287) rfl rfl ?_
   refine done_ (by kernel_rfl) ?_
   have c16 := cellOf HR1.out.mach 16 (.int .i64 y.m.kind) rfl
   rw [hk] at c16
   clear b14 b17
   go_upto_region 2 with fail
   refine start_ (n := 10) (S := fun w' => w'.cell? ⟨S.b, 16, none⟩ = some (.int .i64 1)) (ds := [9]) (Jb 10 0) (by kernel_rfl) rfl (by kernel_rfl) c16 (fun hHeld => ?_)
   refine Jp 0 25 (Jb 10 1) rfl rfl ?_
   refine Jp 1 26 (Jb 10 3) rfl rfl ?_
   refine Jp 2 27 (Jb 10 7) rfl rfl ?_
   refine Jp 3 28 (Jb 10 15) rfl rfl ?_
   refine Jk 4 29 (Jb 10 31) rfl rfl hHeld (.inl ⟨by rfl, by rintro w' s0; go_simp; with_reducible rfl⟩) ?_
   refine Jp 5 30 (Jb 10 63) rfl rfl ?_
   refine Jp 6 31 (Jb 10 127) rfl rfl ?_
   refine Jp 7 32 (Jb 10 255) rfl rfl ?_
   refine Jp 8 33 (Jb 10 511) rfl rfl ?_
   refine last_ (i := 9) (N := none) (Jb 10 1023) rfl rfl (by kernel_rfl) (by decide) (fun K hK => ?_)
   refine GDiffer.step_skip (w' := w1.drew.setCell ⟨S.b, 20, none⟩ (.int .i64 v)) rfl rfl (by have hst := store_int (v := v) (cellOf HR1.out.drew.mach 20 (.int .i64 y.m.f1) rfl) (MPut.frozen_of_row HR1.out.drew.mach 20); simp [execOp, Act.eval, hst]) ?_
   refine hK.out _ _ ?_
   clear hK K
   refine done_ (by kernel_rfl) ?_
   have hR2 := HR1.out.drew.put ((Only.refl S.b _).setCell 20 _) (m := { y.m with f1 := v }) (blk_set HR1.out.drew.mach 20 (.int .i64 v)) rfl
   have HK2 := jA (HK1.out.trans (((Only.refl S.b w1).drew.setCell 20 (.int .i64 v)).keep F))
   obtain ⟨w3, hw3⟩ : ∃ q, q = w1.drew.setCell ⟨S.b, 20, none⟩ (.int .i64 v) := ⟨_, rfl⟩
   rw [← hw3] at hR2 HK2 ⊢
   have d16 := cellOf hR2.mach 16 (.int .i64 y.m.kind) rfl
   rw [hk] at d16
   have d8 := cellOf hR2.mach 8 (nextV S.b y.m.next) rfl
   have g8 := MPut.frozen_of_row hR2.mach 8
   have HR2 := jA hR2
   clear hR2 hw3 c16
   go_wp2_with (first | (go_at_call 119; (refine (seek_calls F S _ { y with m := { y.m with f1 := v } } 2 HR2.out (by decide) HS.out).mono ?_); rintro e w4 ⟨rfl, hR3, hK3⟩; have HR3 := jA hR3; have HK3 := jA hK3; clear hR3 hK3))
   (try simp only [Exit.inBlock, Exit.then])
   refine bodyPost_ret (results_none rfl _ _ _) rfl ?_
   exact ⟨rfl, HR3.out, HK2.out.trans HK3.out⟩
  ·have e2 : setF y.m v = { y.m with f2 := v } := by simp [setF, hk]
   rw [e2, hk]
   rw [if_neg (by decide)]
   go_enter Tryz.func133, Tryz.ntmps133
   go_upto_region 0 with fail
   refine start_ (n := 19) (S := fun w' => w'.cell? ⟨S.b, 14, none⟩ = some (.int .i64 x.m.page) ∧ w'.cell? ⟨S.b, 17, none⟩ = some (.int .i64 x.m.place)) (ds := []) (Jb 19 0) (by kernel_rfl) rfl (by kernel_rfl) ⟨b14, b17⟩ (fun hHeld => ?_)
   refine Jp 0 7 (Jb 19 1) rfl rfl ?_
   refine Jp 1 8 (Jb 19 3) rfl rfl ?_
   refine Jp 2 9 (Jb 19 7) rfl rfl ?_
   refine Jp 3 10 (Jb 19 15) rfl rfl ?_
   refine Jp 4 11 (Jb 19 31) rfl rfl ?_
   refine Jk 5 12 (Jb 19 63) rfl rfl hHeld (.inl ⟨by rfl, by rintro w' ⟨s0, s1⟩; go_simp; with_reducible rfl⟩) ?_
   refine Jp 6 13 (Jb 19 127) rfl rfl ?_
   refine Jp 7 14 (Jb 19 255) rfl rfl ?_
   refine Jp 8 15 (Jb 19 511) rfl rfl ?_
   refine Jp 9 16 (Jb 19 1023) rfl rfl ?_
   refine Jk 10 17 (Jb 19 2047) rfl rfl hHeld (.inl ⟨by rfl, by rintro w' ⟨s0, s1⟩; go_simp; with_reducible rfl⟩) ?_
   refine Jp 11 18 (Jb 19 4095) rfl rfl ?_
   refine Jp 12 19 (Jb 19 8191) rfl rfl ?_
   refine one_ (i := 13) (N := some 20) (Jb 19 16383) rfl rfl (by kernel_rfl) (by decide) (fun K hK => ?_)
   refine goes_ Tryz.func85 (by kernel_rfl) rfl #[.pointer (some ⟨S.b, 0, none⟩), .int .i64 (IntKind.i64.wrap (IntKind.i64.wrap (x.m.page + 5) + IntKind.i64.wrap (2 * x.m.place)))] (by rfl) rfl rfl (by (try simp only [List.map_toArray, List.map_cons, List.map_nil]); first | done | rfl) ?_
   refine HQ.out.mono ?_
   rintro e w1 ⟨rfl, hR1, hK1⟩
   refine ⟨_, rfl, ?_⟩
   have HR1 := jA hR1
   have HK1 := jA (HK0.out.trans hK1)
   refine hK.out _ _ ⟨cellOf hR1.mach 14 (.int .i64 y.m.page) rfl |>.trans (by rw [hym]), cellOf hR1.mach 17 (.int .i64 y.m.place) rfl |>.trans (by rw [hym])⟩ (fun hHeld => ?_)
   clear hK K hR1 hK1
   refine norm_ (a' := ?_) ?_ ?_; rotate_left; (show Act.put _ (some 20) _ = _; simp only [Act.put, Jq, Jr, Js]; rfl)
   refine Jp 14 6 (Jb 19 32767) rfl rfl ?_
   refine Jp 15 21 (Jb 19 65535) rfl rfl ?_
   refine Jp 16 22 (Jb 19 131071) rfl rfl ?_
   refine Jp 17 4 (Jb 19 262143) rfl rfl ?_
   refine Jp 18 5 (Jb 19 524287) rfl rfl ?_
   refine done_ (by kernel_rfl) ?_
   have c16 := cellOf HR1.out.mach 16 (.int .i64 y.m.kind) rfl
   rw [hk] at c16
   clear b14 b17
   go_upto_region 2 with fail
   refine start_ (n := 10) (S := fun w' => w'.cell? ⟨S.b, 16, none⟩ = some (.int .i64 2)) (ds := [9]) (Jb 10 0) (by kernel_rfl) rfl (by kernel_rfl) c16 (fun hHeld => ?_)
   refine Jp 0 25 (Jb 10 1) rfl rfl ?_
   refine Jp 1 26 (Jb 10 3) rfl rfl ?_
   refine Jp 2 27 (Jb 10 7) rfl rfl ?_
   refine Jp 3 28 (Jb 10 15) rfl rfl ?_
   refine Jk 4 29 (Jb 10 31) rfl rfl hHeld (.inl ⟨by rfl, by rintro w' s0; go_simp; with_reducible rfl⟩) ?_
   refine Jp 5 30 (Jb 10 63) rfl rfl ?_
   refine Jp 6 31 (Jb 10 127) rfl rfl ?_
   refine Jp 7 32 (Jb 10 255) rfl rfl ?_
   refine Jp 8 33 (Jb 10 511) rfl rfl ?_
   refine last_ (i := 9) (N := none) (Jb 10 1023) rfl rfl (by kernel_rfl) (by decide) (fun K hK => ?_)
   refine GDiffer.step_skip (w' := w1.drew.setCell ⟨S.b, 21, none⟩ (.int .i64 v)) rfl rfl (by have hst := store_int (v := v) (cellOf HR1.out.drew.mach 21 (.int .i64 y.m.f2) rfl) (MPut.frozen_of_row HR1.out.drew.mach 21); simp [execOp, Act.eval, hst]) ?_
   refine hK.out _ _ ?_
   clear hK K
   refine done_ (by kernel_rfl) ?_
   have hR2 := HR1.out.drew.put ((Only.refl S.b _).setCell 21 _) (m := { y.m with f2 := v }) (blk_set HR1.out.drew.mach 21 (.int .i64 v)) rfl
   have HK2 := jA (HK1.out.trans (((Only.refl S.b w1).drew.setCell 21 (.int .i64 v)).keep F))
   obtain ⟨w3, hw3⟩ : ∃ q, q = w1.drew.setCell ⟨S.b, 21, none⟩ (.int .i64 v) := ⟨_, rfl⟩
   rw [← hw3] at hR2 HK2 ⊢
   have d16 := cellOf hR2.mach 16 (.int .i64 y.m.kind) rfl
   rw [hk] at d16
   have d8 := cellOf hR2.mach 8 (nextV S.b y.m.next) rfl
   have g8 := MPut.frozen_of_row hR2.mach 8
   have HR2 := jA hR2
   clear hR2 hw3 c16
   go_wp2
   go_end0
   have r := HR2.out.put (m := { y.m with f2 := v, next := some 139 }) ((Only.refl S.b _).setCell 8 _) (blk_set HR2.out.mach 8 (.func (.func 139) #[.pointer (some ⟨S.b, 0, none⟩)] #[])) rfl
   exact ⟨rfl, by first | exact r | (rw [← hym]; exact r) | (rw [hym] at r; exact r) | simpa [hym] using r, HK2.out.trans (((Only.refl S.b _).setCell 8 _).keep F)⟩
 ·have e1 : numberX x = { x.acc (slotA 5 x.m) with m := brk x.m } := by simp only [numberX, X.at_, if_neg h0]
  rw [e1]
  have HQ := jA (mload_bad F S w.drew x (slotA 5 x.m) h.drew hl h0)
  rw [hA] at HQ
  rw [hA]
  clear h hl h0 e1 hA hs hk
  go_enter Tryz.func133, Tryz.ntmps133
  go_upto_region 0 with fail
  refine start_ (n := 19) (S := fun w' => w'.cell? ⟨S.b, 14, none⟩ = some (.int .i64 x.m.page) ∧ w'.cell? ⟨S.b, 17, none⟩ = some (.int .i64 x.m.place)) (ds := []) (Jb 19 0) (by kernel_rfl) rfl (by kernel_rfl) ⟨b14, b17⟩ (fun hHeld => ?_)
  refine Jp 0 7 (Jb 19 1) rfl rfl ?_
  refine Jp 1 8 (Jb 19 3) rfl rfl ?_
  refine Jp 2 9 (Jb 19 7) rfl rfl ?_
  refine Jp 3 10 (Jb 19 15) rfl rfl ?_
  refine Jp 4 11 (Jb 19 31) rfl rfl ?_
  refine Jk 5 12 (Jb 19 63) rfl rfl hHeld (.inl ⟨by rfl, by rintro w' ⟨s0, s1⟩; go_simp; with_reducible rfl⟩) ?_
  refine Jp 6 13 (Jb 19 127) rfl rfl ?_
  refine Jp 7 14 (Jb 19 255) rfl rfl ?_
  refine Jp 8 15 (Jb 19 511) rfl rfl ?_
  refine Jp 9 16 (Jb 19 1023) rfl rfl ?_
  refine Jk 10 17 (Jb 19 2047) rfl rfl hHeld (.inl ⟨by rfl, by rintro w' ⟨s0, s1⟩; go_simp; with_reducible rfl⟩) ?_
  refine Jp 11 18 (Jb 19 4095) rfl rfl ?_
  refine Jp 12 19 (Jb 19 8191) rfl rfl ?_
  refine one_ (i := 13) (N := some 20) (Jb 19 16383) rfl rfl (by kernel_rfl) (by decide) (fun K hK => ?_)
  refine goes_ Tryz.func85 (by kernel_rfl) rfl #[.pointer (some ⟨S.b, 0, none⟩), .int .i64 (IntKind.i64.wrap (IntKind.i64.wrap (x.m.page + 5) + IntKind.i64.wrap (2 * x.m.place)))] (by rfl) rfl rfl (by (try simp only [List.map_toArray, List.map_cons, List.map_nil]); first | done | rfl) ?_
  refine HQ.out.mono ?_
  rintro e w1 ⟨rfl, hR1, hK1⟩
  refine ⟨_, rfl, ?_⟩
  have HR1 := jA hR1
  have HK1 := jA (HK0.out.trans hK1)
  refine hK.out _ _ ⟨cellOf hR1.mach 14 (.int .i64 x.m.page) rfl |>.trans rfl, cellOf hR1.mach 17 (.int .i64 x.m.place) rfl |>.trans rfl⟩ (fun hHeld => ?_)
  clear hK K hR1 hK1
  refine norm_ (a' := ?_) ?_ ?_; rotate_left; (show Act.put _ (some 20) _ = _; simp only [Act.put, Jq, Jr, Js]; rfl)
  refine Jp 14 6 (Jb 19 32767) rfl rfl ?_
  refine Jp 15 21 (Jb 19 65535) rfl rfl ?_
  refine Jp 16 22 (Jb 19 131071) rfl rfl ?_
  refine Jp 17 4 (Jb 19 262143) rfl rfl ?_
  refine Jp 18 5 (Jb 19 524287) rfl rfl ?_
  refine done_ (by kernel_rfl) ?_
  go_wp2
  (try simp only [Exit.inBlock, Exit.then])
  refine bodyPost_ret (results_none rfl _ _ _) rfl ?_
  exact ⟨rfl, HR1.out, HK1.out⟩
end Go.Proofs.YtdgkppldopiaoaaGreat.RNum
/- cells.New, Len, epoch.New, walked where they go well. -/
namespace Go.Proofs.YtdgkppldopiaoaaGreat.RNew
open Go.RowKit YtdgkppldopiaoaaGreatW.PrintWords YtdgkppldopiaoaaGreatW.PrintLast YtdgkppldopiaoaaGreatW.PrintMore BMap BRow MLines MPut RMem RCells REpoch RMach Go.Maps
open PG
set_option maxHeartbeats 1000000
set_option maxRecDepth 100000
theorem made_words (n : Nat) : madeCells #[.int .i64 0] n = wordsV (List.replicate n 0) := by
 apply Array.ext
 ·simp [madeCells, wordsV]
 ·intro i h1 h2
  simp [madeCells, wordsV, Nat.mod_one]
theorem make_words (n : Nat) (hn : n ≤ 65536) (w : World) : (Instr.makeSlice 22 (.int .i64 (n : Int)) (.int .i64 (n : Int))).run Tryz.prog w = .ok (.slice (some ⟨w.heap.size, 0, none⟩) n n) (w.alloc (.cells (wordsV (List.replicate n 0)) 3)) := by
 have h : (Tryz.prog.info? 3).map (fun i => (i.zero, i.size, i.bytes)) = some (some (.int .i64 0), 1, 8) := PG.info3
 obtain ⟨i, h1, hz⟩ := Option.map_eq_some_iff.1 h
 simp only [Prod.mk.injEq] at hz
 obtain ⟨h2, h3, h4⟩ := hz
 have := run_make (P := Tryz.prog) w 22 3 i _ Tryz.underlying22 h1 h2 .i64 .i64 (n : Int) n (by omega) (by omega) (by rw [h4]; omega) (by omega)
 rw [h3] at this
 rw [← made_words]
 simpa [Value.cells] using this
theorem new_calls (F : Nat → Prop) (w : World) (n : Nat) (h1 : 1 ≤ n) (hn : n ≤ 65536) (hF : ∀ k, F k → k < w.heap.size) :
  Calls Tryz.prog 14 #[.int .i64 n] w fun e w' => e = .returned (.tuple #[.pointer (some ⟨w.heap.size + 1, 0, none⟩), .int .i64 0]) ∧ Mem F w' (w.heap.size + 1) w.heap.size (List.replicate n 0) [] 0 (.slice none 0 0) ∧ Below w.heap.size w w' := by
 have hmk := make_words n hn w
 have hm1 : (n : Int) ≥ 1 := by omega
 have hm2 : (n : Int) ≤ 65536 := by omega
 go_enter Tryz.func14, Tryz.ntmps14
 go_wp2
 go_ret2
 have hb := below_alloc (below_alloc (Below.refl w.heap.size w) (.cells (wordsV (List.replicate n 0)) 3)) (.cells #[.slice (some ⟨w.heap.size, 0, none⟩) n n, .slice none 0 0, .int .i64 0] 118)
 have hz : (w.alloc (.cells (wordsV (List.replicate n 0)) 3)).heap.size = w.heap.size + 1 := Array.size_push _
 have hbm : ((w.alloc (.cells (wordsV (List.replicate n 0)) 3)).alloc (.cells #[.slice (some ⟨w.heap.size, 0, none⟩) n n, .slice none 0 0, .int .i64 0] 118)).heap[w.heap.size + 1]? = some (.cells #[.slice (some ⟨w.heap.size, 0, none⟩) n n, .slice none 0 0, .int .i64 0] 118 (0, 0)) := by
  have := heap_alloc_new (w.alloc (.cells (wordsV (List.replicate n 0)) 3)) (.cells #[.slice (some ⟨w.heap.size, 0, none⟩) n n, .slice none 0 0, .int .i64 0] 118)
  rw [hz] at this
  exact this
 have hbw : ((w.alloc (.cells (wordsV (List.replicate n 0)) 3)).alloc (.cells #[.slice (some ⟨w.heap.size, 0, none⟩) n n, .slice none 0 0, .int .i64 0] 118)).heap[w.heap.size]? = some (.cells (wordsV (List.replicate n 0)) 3 (0, 0)) :=
  (Below.heap_alloc _ _ _ (by rw [hz]; omega)).trans (heap_alloc_new w _)
 refine ⟨by first | rfl | (rw [hz]), ⟨by rw [List.length_replicate]; exact hbm, hbw, Kd.R_nil _ _ _ _ _, by omega, fun h => by have := hF _ h; omega, fun h => by have := hF _ h; omega, fun k hk => Nat.lt_of_lt_of_le (hF k hk) hb.size, by rw [List.length_replicate]; exact hn⟩, hb⟩
theorem len_calls (F : Nat → Prop) (w : World) (bm bw : Nat) (ws : List Int) (tr : List S115) (bad : Int) (tv : Value) (h : Mem F w bm bw ws tr bad tv) :
  Calls Tryz.prog 43 #[.pointer (some ⟨bm, 0, none⟩)] w fun e w' => e = .returned (.int .i64 ws.length) ∧ w' = w := by
 have c0 := h.cell0
 have hs := h.small
 clear h
 go_enter Tryz.func43, Tryz.ntmps43
 go_wp2
 go_ret
 exact ⟨rfl, rfl⟩
theorem epoch_new (F : Nat → Prop) (w : World) (bm bw : Nat) (ws : List Int) (tr : List S115) (bad : Int) (tv : Value) (ep first n : Int) (h : Mem F w bm bw ws tr bad tv) (h1 : 1 ≤ n) (h2 : n ≤ 16) (h3 : 0 ≤ ep) (h4 : ep < ws.length) (h5 : 0 ≤ first) (h6 : first ≤ ws.length - n) (h7 : ep < first ∨ first + n ≤ ep) :
  Calls Tryz.prog 16 #[.pointer (some ⟨bm, 0, none⟩), .int .i64 ep, .int .i64 first, .int .i64 n] w fun e w' => e = .returned (.tuple #[.pointer (some ⟨w.heap.size, 0, none⟩), .int .i64 0]) ∧ SlotsAt w' w.heap.size bm ep first n ∧ Below w.heap.size w w' := by
 have HQ := jA (len_calls F w bm bw ws tr bad tv h)
 have hs := h.small
 have hne : ¬ (first ≤ ep ∧ ep - first < n) := by omega
 obtain ⟨L, hL⟩ : ∃ L : Int, L = (ws.length : Int) := ⟨_, rfl⟩
 have hL1 : L ≤ 65536 := by omega
 rw [← hL] at HQ h4 h6
 clear h hs hL
 rcases h7 with h7 | h7
 ·go_enter Tryz.func16, Tryz.ntmps16
  go_wp2_with (first | (go_at_call 43; (refine HQ.out.mono ?_); rintro e w1 ⟨rfl, rfl⟩))
  go_ret2
  exact ⟨rfl, heap_alloc_new _ _, below_alloc (Below.refl _ _) _⟩
 ·go_enter Tryz.func16, Tryz.ntmps16
  go_wp2_with (first | (go_at_call 43; (refine HQ.out.mono ?_); rintro e w1 ⟨rfl, rfl⟩))
  go_ret2
  exact ⟨rfl, heap_alloc_new _ _, below_alloc (Below.refl _ _) _⟩
end Go.Proofs.YtdgkppldopiaoaaGreat.RNew
/- avc.Cache: its blocks; Spot, walked. -/
namespace Go.Proofs.YtdgkppldopiaoaaGreat.RCache
open Go.RowKit YtdgkppldopiaoaaGreatW.PrintWords YtdgkppldopiaoaaGreatW.PrintLast YtdgkppldopiaoaaGreatW.PrintMore BMap BRow MLines MPut RMem RCells REpoch RMach Go.Maps
open PG
set_option maxHeartbeats 1000000
set_option maxRecDepth 100000
structure Pl where
 held : Bool
 k0 : Int
 k1 : Int
 k2 : Int
 tag : Int
 al : Bool
 mark : Bool
abbrev plV (p : Pl) : List Value := [.bool p.held, .int .i64 p.k0, .int .i64 p.k1, .int .i64 p.k2, .int .i64 p.tag, .bool p.al, .bool p.mark]
structure Cset where
 pls : List Pl
 hand : Int
 blk : Nat
abbrev setV (s : Cset) : List Value := [.slice (some ⟨s.blk, 0, none⟩) s.pls.length s.pls.length, .int .i64 s.hand]
def setsV (L : List Cset) : Array Value := (L.flatMap setV).toArray
def plsV (ps : List Pl) : Array Value := (ps.flatMap plV).toArray
structure Stats where
 hits : Int
 misses : Int
 ev : Int
 held : Int
abbrev topV (bset n : Nat) (st : Stats) : Array Value := #[.slice (some ⟨bset, 0, none⟩) n n, .int .i64 st.hits, .int .i64 st.misses, .int .i64 st.ev, .int .i64 st.held]
structure CacheAt (w : World) (bc bset : Nat) (L : List Cset) (st : Stats) : Prop where
 top : w.heap[bc]? = some (.cells (topV bset L.length st) 109 (0, 0))
 sets : w.heap[bset]? = some (.cells (setsV L) 151 (0, 0))
 each : ∀ s ∈ L, w.heap[s.blk]? = some (.cells (plsV s.pls) 233 (0, 0))
 nd : (L.map (·.blk)).Nodup
 ne : bc ≠ bset
 off : ∀ s ∈ L, s.blk ≠ bc ∧ s.blk ≠ bset
 some_ : 1 ≤ L.length
 small : L.length ≤ 256
 ways : ∀ s ∈ L, 1 ≤ s.pls.length ∧ s.pls.length ≤ 8
 hands : ∀ s ∈ L, 0 ≤ s.hand ∧ s.hand < s.pls.length
theorem flat_get {α : Type} (f : α → List Value) (k : Nat) (hk : ∀ x, (f x).length = k) : ∀ (L : List α) (i j : Nat) (x : α), L[i]? = some x → j < k → (L.flatMap f)[i * k + j]? = (f x)[j]?
 | [], i, j, x, h, _ => by simp at h
 | y :: r, 0, j, x, h, hj => by
  simp at h
  subst h
  rw [List.flatMap_cons, List.getElem?_append_left (by rw [hk]; omega)]
  simp
 | y :: r, i + 1, j, x, h, hj => by
  have := flat_get f k hk r i j x (by simpa using h) hj
  rw [List.flatMap_cons, List.getElem?_append_right (by rw [hk, Nat.add_mul]; omega), hk, ← this]
  congr 1
  rw [Nat.add_mul]; omega
theorem sets_get {L : List Cset} {i : Nat} {s : Cset} (h : L[i]? = some s) : (setsV L)[2 * i]? = some (.slice (some ⟨s.blk, 0, none⟩) s.pls.length s.pls.length) ∧ (setsV L)[2 * i + 1]? = some (.int .i64 s.hand) := by
 have h0 := flat_get setV 2 (fun _ => rfl) L i 0 s h (by omega)
 have h1 := flat_get setV 2 (fun _ => rfl) L i 1 s h (by omega)
 refine ⟨?_, ?_⟩
 ·rw [setsV, List.getElem?_toArray, show 2 * i = i * 2 + 0 by omega, h0]; rfl
 ·rw [setsV, List.getElem?_toArray, show 2 * i + 1 = i * 2 + 1 by omega, h1]; rfl
theorem pls_get {ps : List Pl} {i j : Nat} {p : Pl} (h : ps[i]? = some p) (hj : j < 7) : (plsV ps)[7 * i + j]? = (plV p)[j]? := by
 rw [plsV, List.getElem?_toArray, show 7 * i + j = i * 7 + j by omega]
 exact flat_get plV 7 (fun _ => rfl) ps i j p h hj
def rawI (s o a : Int) : Int := wrap64 (wrap64 (wrap64 (wrap64 (s * 31) + o) * 31) + a)
def spotI (n s o a : Int) : Int := if (rawI s o a).tmod n < 0 then (rawI s o a).tmod n + n else (rawI s o a).tmod n
theorem spot_range {n s o a : Int} (h : 1 ≤ n) : 0 ≤ spotI n s o a ∧ spotI n s o a < n := by
 have h1 := Int.tmod_lt_of_pos (rawI s o a) (show (0 : Int) < n by omega)
 have h2 : -n < (rawI s o a).tmod n := by
  have := Int.lt_tmod_of_pos (rawI s o a) (show (0 : Int) < n by omega)
  omega
 unfold spotI
 split <;> omega
theorem spot_calls (w : World) (bc bset n : Nat) (st : Stats) (s o a : Int) (h : w.heap[bc]? = some (.cells (topV bset n st) 109 (0, 0))) (h1 : 1 ≤ n) (h2 : n ≤ 256) :
  Calls Tryz.prog 125 #[.pointer (some ⟨bc, 0, none⟩), .int .i64 s, .int .i64 o, .int .i64 a] w fun e w' => e = .returned (.int .i64 (spotI n s o a)) ∧ w' = w := by
 have c0 := cellOf h 0 (.slice (some ⟨bset, 0, none⟩) n n) rfl
 have hr := spot_range (n := n) (s := s) (o := o) (a := a) (by omega)
 obtain ⟨q, hq⟩ : ∃ q, q = (rawI s o a).tmod n := ⟨_, rfl⟩
 have hq' : q = Int.tmod (wrap64 (wrap64 (wrap64 (wrap64 (s * 31) + o) * 31) + a)) n := hq
 have hn0 : (n : Int) ≠ 0 := by omega
 have hn1 : (n : Int) ≤ 256 := by omega
 unfold spotI at hr ⊢
 rw [← hq] at hr ⊢
 clear h hq
 by_cases hl : q < 0
 ·rw [if_pos hl] at hr ⊢
  go_enter Tryz.func125, Tryz.ntmps125
  go_wp2
  go_ret
  exact ⟨by first | rfl | (rw [hq']; rfl), rfl⟩
 ·rw [if_neg hl] at hr ⊢
  go_enter Tryz.func125, Tryz.ntmps125
  go_wp2
  go_ret
  exact ⟨by first | rfl | (rw [hq']; rfl), rfl⟩
end Go.Proofs.YtdgkppldopiaoaaGreat.RCache
/- reach.Close over lines, reach.Up. -/
namespace Go.Proofs.YtdgkppldopiaoaaGreat.MClose
open Go.RowKit YtdgkppldopiaoaaGreatW.PrintWords YtdgkppldopiaoaaGreatW.PrintLast YtdgkppldopiaoaaGreatW.PrintMore BMap BRow MLines MPut Go.Maps
open PG
inductive Reach (ps : List S242) (x : ByteArray) : ByteArray → Prop where
 | here : Reach ps x x
 | step {s : ByteArray} {q : S242} : Reach ps x s → q ∈ ps → q.f0 = s → Reach ps x q.f1
theorem mem_targets (ps : List S242) (s t : ByteArray) : t ∈ targets ps s ↔ ∃ q ∈ ps, q.f0 = s ∧ q.f1 = t := by
 unfold targets
 rw [List.mem_map]
 constructor
 ·rintro ⟨q, hq, rfl⟩
  have := List.mem_filter.1 hq
  exact ⟨q, this.1, of_decide_eq_true this.2, rfl⟩
 ·rintro ⟨q, hq, h1, rfl⟩
  exact ⟨q, List.mem_filter.2 ⟨hq, decide_eq_true h1⟩, rfl⟩
structure Turn (ps : List S242) (x : ByteArray) (L : List ByteArray) (i : Nat) : Prop where
 nodup : L.Nodup
 le : i ≤ L.length
 has : x ∈ L
 reach : ∀ s ∈ L, Reach ps x s
 done : ∀ (j : Nat) (h : j < L.length), j < i → ∀ t ∈ targets ps L[j], t ∈ L
theorem Turn.start (ps : List S242) (x : ByteArray) : Turn ps x (MPut.putAll [] [x]) 0 := by
 have e : MPut.putAll [] [x] = [x] := by simp [MPut.putAll, put1]
 rw [e]
 exact ⟨by simp, by simp, by simp, fun s hs => by rw [List.mem_singleton.1 hs]; exact .here, fun j _ h => by omega⟩
theorem Turn.next {ps : List S242} {x : ByteArray} {L : List ByteArray} {i : Nat} (h : Turn ps x L i) (hi : i < L.length) : Turn ps x (MPut.putAll L (targets ps L[i])) (i + 1) := by
 obtain ⟨M, hM⟩ := putAll_prefix (targets ps L[i]) L
 refine ⟨nodup_putAll _ h.nodup, by rw [hM, List.length_append]; omega, (mem_putAll _ _ _).2 (.inl h.has), fun s hs => ?_, fun j hj hji t ht => ?_⟩
 ·rcases (mem_putAll _ _ _).1 hs with hs | hs
  ·exact h.reach s hs
  ·obtain ⟨q, hq, h1, rfl⟩ := (mem_targets _ _ _).1 hs
   exact .step (h.reach _ (List.getElem_mem hi)) hq h1
 ·have hjL : j < L.length := by omega
  have e : (MPut.putAll L (targets ps L[i]))[j] = L[j] := by
   have h2 : (MPut.putAll L (targets ps L[i]))[j]? = (L ++ M)[j]? := by rw [hM]
   rw [List.getElem?_eq_getElem hj, List.getElem?_append_left hjL, List.getElem?_eq_getElem hjL] at h2
   exact Option.some.inj h2
  rw [e] at ht
  refine (mem_putAll _ _ _).2 ?_
  by_cases Za : j = i
  ·subst Za; exact .inr ht
  ·exact .inl (h.done j hjL (by omega) t ht)
theorem Turn.all {ps : List S242} {x : ByteArray} {L : List ByteArray} (h : Turn ps x L L.length) (s : ByteArray) : s ∈ L ↔ Reach ps x s := by
 constructor
 ·exact h.reach s
 ·intro hr
  induction hr with
  | here => exact h.has
  | step _ hq e ih =>
   obtain ⟨j, hj, rfl⟩ := List.getElem_of_mem ih
   exact h.done j hj hj _ ((mem_targets _ _ _).2 ⟨_, hq, e, rfl⟩)
theorem reach_in {ps : List S242} {x s : ByteArray} (h : Reach ps x s) : s = x ∨ s ∈ ps.map (·.f1) := by
 cases h with
 | here => exact .inl rfl
 | step _ hq _ => exact .inr (List.mem_map_of_mem hq)
theorem Turn.short {ps : List S242} {x : ByteArray} {L : List ByteArray} {i : Nat} (h : Turn ps x L i) : L.length ≤ ps.length + 1 := by
 have := nodup_le L (x :: ps.map (·.f1)) h.nodup (fun s hs => by
  rcases reach_in (h.reach s hs) with rfl | h'
  ·simp
  ·exact List.mem_cons_of_mem _ h')
 simpa using this
theorem next_calls (x : ByteArray) (bv b : Nat) (w wr : World) (f : ByteArray → Option Value) (n : Nat) (ps : List S242) (hL : Lines w wr b f n ps) (hv : wr.cell? ⟨bv, 0, none⟩ = some (.map (some b))) (hx : okS x) :
  Calls Tryz.prog 137 #[.string x, .pointer (some ⟨bv, 0, none⟩)] wr fun e w' => e = .returned ((f x).getD (.slice none 0 0)) ∧ w' = wr := by
 have hlk := hL.map.lookup str_key Tryz.underlying248 (z76 wr) hx false
 simp only [Bool.false_eq_true, if_false, Option.map_id_fun, id] at hlk
 clear hL
 go_enter Tryz.func137, Tryz.ntmps137
 go_wp2
 go_ret
 exact ⟨rfl, rfl⟩
theorem Lines.read {w wr w1 : World} {b : Nat} {f : ByteArray → Option Value} {n : Nat} {ps : List S242} (h : Lines w wr b f n ps) (hb : Below wr.heap.size wr w1) (s : ByteArray) :
  ∃ A c, (f s).getD (.slice none 0 0) = .slice A (targets ps s).length c ∧ Kd.C Kd.string w1 A (targets ps s).length (targets ps s) := by
 cases hf : f s with
 | none =>
  rw [h.no s hf]
  exact ⟨none, 0, rfl, rfl, by simp, fun h => absurd h (by simp)⟩
 | some v =>
  obtain ⟨A, c, rfl, _, hr⟩ := Kd.R_reads (Kd.R_below (h.vals s v hf) hb)
  exact ⟨A, c, rfl, hr⟩
theorem func_not_nil (v : Value) (w : World) : (binOp .neq 251 (.func (.func 137) #[] #[v]) .nilFunc).run Tryz.prog w = .ok (.bool true) w := by kernel_rfl
theorem close_calls (A : Option Addr) (c : Nat) (x : ByteArray) (bv b : Nat) (w0 w : World) (f : ByteArray → Option Value) (n : Nat) (ps : List S242) (hL : Lines w0 w b f n ps) (hv : w.cell? ⟨bv, 0, none⟩ = some (.map (some b)))
  (hC : Kd.C Kd.string w A 1 [x]) (hx : okS x) (hok : ∀ q ∈ ps, okS q.f0 ∧ okS q.f1) (hb : ps.length ≤ 8796093021952) :
  Calls Tryz.prog 136 #[.slice A 1 c, .func (.func 137) #[] #[.pointer (some ⟨bv, 0, none⟩)]] w fun e w' => ∃ v, e = .returned v ∧ ∃ L, Kd.R Kd.string 9 w' w.heap.size (fun _ => True) v L ∧ L.Nodup ∧ (∀ s, s ∈ L ↔ Reach ps x s) ∧ Below w.heap.size w w' := by
 have HL := jA hL
 have HV := jA hv
 have HC := jA hC
 have HX := jA hx
 have HOK := jA hok
 have HB := jA hb
 clear hL hv hC hx hok
 have hmm := @run_makeMap Tryz.prog
 go_enter Tryz.func136, Tryz.ntmps136
 go_upto_region 4 with fail
 obtain ⟨W, hW⟩ : ∃ W, W = (((w.alloc (.map #[] 0)).alloc (.cells #[.map (some w.heap.size)] 220)).alloc (.cells #[.slice none 0 0] 76)) := ⟨_, rfl⟩
 have hS : Seen w W (w.heap.size + 1) w.heap.size (w.heap.size + 1 + 1) (fun _ => none) 0 (.slice none 0 0) [] := by
  subst hW
  refine ⟨?_, ?_, ?_, Kd.R_nil _ _ _ _ _, fun s => by simp, by omega, by omega, by omega, by omega, by omega, by omega, ?_⟩
  ·have h1 := heap_alloc_new (w.alloc (.map #[] 0)) (.cells #[.map (some w.heap.size)] 220)
   rw [World.size_alloc] at h1
   exact (Below.heap_alloc _ _ _ (by simp)).trans h1
  ·exact ((MapF.made w).alloc _).alloc _
  ·have h1 := heap_alloc_new ((w.alloc (.map #[] 0)).alloc (.cells #[.map (some w.heap.size)] 220)) (.cells #[.slice none 0 0] 76)
   rw [World.size_alloc, World.size_alloc] at h1
   exact h1
  ·exact below_alloc (below_alloc (below_alloc (Below.refl _ _) _) _) _
 rw [← hW]
 have HS := jA hS
 clear hmm hW hS
 go_upto_region 6 with (first | (go_at_call 141; (refine (put_calls A c [x] w W (w.heap.size + 1) w.heap.size (w.heap.size + 1 + 1) (fun _ => none) 0 (.slice none 0 0) [] [x] HS.out (fun wr hb => Kd.C_below HC.out hb) (fun s hs => by rw [List.mem_singleton.1 hs]; exact HX.out) (by simp) (fun s hs => by simpa using hs) (by simp)).mono ?_); rintro e w2 ⟨rfl, f2, n2, v2, hS2⟩; have HS2 := jA hS2; clear hS2))
 go_loopw [8] (fun u wr => ∃ (i : Nat) (f' : ByteArray → Option Unit) (n' : Nat) (v : Value) (L : List ByteArray), u = .int .i64 i ∧ Aside0 (Turn ps x L i) ∧ Aside0 (Seen w wr (w.heap.size + 1) w.heap.size (w.heap.size + 1 + 1) f' n' v L)) (fun u _ => ps.length + 1 - (intOf u).toNat)
 case atStart => exact ⟨0, f2, n2, v2, _, rfl, ⟨Turn.start ps x⟩, HS2⟩
 case round =>
  obtain ⟨i, f', n', v, L, rfl, HT, HR⟩ := hrel
  obtain ⟨Al, cl, rfl, hcl, hrl⟩ := Kd.R_reads HR.out.row
  have hlv : wr.cell? ⟨w.heap.size + 1 + 1, 0, none⟩ = some (.slice Al L.length cl) := by rw [cell_of_row _ _ _ _ _ _ HR.out.lvar]; rfl
  by_cases hlt : i < L.length
  ·have hiI : (i : Int) < L.length := by omega
   obtain ⟨ad, e0, hx⟩ := Kd.at_string hrl (i : Int) (by omega) (by omega)
   have hget : rdOf ByteArray.empty L (i : Int) = L[i] := by simp [rdOf, hlt]
   simp only [hget, Int.toNat_natCast] at hx
   subst e0
   have hnn := func_not_nil (.pointer (some ⟨bv, 0, none⟩)) wr
   obtain ⟨y, hy⟩ : ∃ y, y = L[i] := ⟨_, rfl⟩
   rw [← hy] at hx
   have hyx : Reach ps x y := by rw [hy]; exact HT.out.reach _ (List.getElem_mem hlt)
   have hyok : okS y := by
    rcases reach_in hyx with e | h
    ·rw [e]; exact HX.out
    ·obtain ⟨q, hq, e⟩ := List.mem_map.1 h
     rw [← e]; exact (HOK.out q hq).2
   have HY := jA hyok
   have HYL := jA hy
   clear hyx hyok hy
   obtain ⟨At, ct, hft, hCt⟩ := Lines.read HL.out (Below.refl _ w) y
   have HCT := jA hCt
   have hlen := HT.out.short
   have HN := jA (HT.out.next hlt)
   rw [← HYL.out] at HN
   clear hCt
   go_wp2_with (first | (go_at_call 137; (refine (next_calls y bv b w0 wr f n ps (HL.out.move HR.out.below) ((pw_cell_below HR.out.below HV.out)) HY.out).mono ?_); rintro e w5 ⟨rfl, rfl⟩; rw [hft]) | (go_at_call 141; (refine (put_calls At ct (targets ps y) w _ (w.heap.size + 1) w.heap.size (w.heap.size + 1 + 1) f' n' _ L (x :: ps.map (·.f1)) HR.out (fun wr hb => Kd.C_below HCT.out hb) (fun s hs => by obtain ⟨q, hq, _, rfl⟩ := (mem_targets _ _ _).1 hs; exact (HOK.out q hq).2) HT.out.nodup (fun s hs => by rcases hs with hs | hs; (rcases reach_in (HT.out.reach s hs) with rfl | h; (simp); (exact List.mem_cons_of_mem _ h)); (obtain ⟨q, hq, _, rfl⟩ := (mem_targets _ _ _).1 hs; exact List.mem_cons_of_mem _ (List.mem_map_of_mem hq))) (by have := HB.out; simp; omega)).mono ?_); rintro e w6 ⟨rfl, f6, n6, v6, hS6⟩; have HS6 := jA hS6; clear hS6))
   go_roundw
   case rel => exact ⟨i + 1, f6, n6, v6, _, by go_num, HN, HS6⟩
   case measure => simp [intOf]; omega
  ·have hiI : ¬ (i : Int) < L.length := by omega
   have hnn := func_not_nil (.pointer (some ⟨bv, 0, none⟩)) wr
   have hii : i = L.length := by have := HT.out.le; omega
   subst hii
   go_wp2
   go_ret
   exact ⟨_, rfl, L, Kd.R_mono HR.out.row (fun _ _ => trivial), HT.out.nodup, HT.out.all, HR.out.below⟩
theorem C_one {α : Type} {enc : α → Value} {h1 : ∀ x, (enc x).oneCell' = true} {w : World} {b : Nat} {x : α} (h : w.cell? ⟨b, 0, none⟩ = some (enc x)) : Kd.C (Kd.scalar enc h1) w (some ⟨b, 0, none⟩) 1 [x] := by
 refine ⟨rfl, by decide, fun _ => ⟨_, rfl, fun j p hp => ?_⟩⟩
 have hj : j = 0 := by have := (List.getElem?_eq_some_iff.1 hp).1; simpa using this
 subst hj
 have hp : x = p := by simpa using hp
 subst hp
 refine ⟨[enc x], rfl, rfl, fun i u hu => ?_⟩
 have hi : i = 0 := by have := (List.getElem?_eq_some_iff.1 hu).1; simpa using this
 subst hi
 have hu : enc x = u := by simpa using hu
 subst hu
 simpa [Addr.add] using h
theorem up_calls (A : Option Addr) (c : Nat) (x : ByteArray) (w : World) (ps : List S242) (hC : Kd.C k242 w A ps.length ps) (hc : ps.length ≤ c) (hx : okS x) (hok : ∀ q ∈ ps, okS q.f0 ∧ okS q.f1) (hb : ps.length ≤ 8796093021952) :
  Calls Tryz.prog 128 #[.slice A ps.length c, .string x] w fun e w' => ∃ v, e = .returned v ∧ ∃ L, Kd.R Kd.string 9 w' w.heap.size (fun _ => True) v L ∧ L.Nodup ∧ (∀ s, s ∈ L ↔ Reach ps x s) ∧ Below w.heap.size w w' := by
 have HC := jA hC
 have HX := jA hx
 have HOK := jA hok
 have HB := jA hb
 have HCC := jA hc
 clear hC hx hok hb hc
 go_enter Tryz.func128, Tryz.ntmps128
 go_upto_region 2 with (first | (go_at_call 135; (with_reducible refine (lines_calls A c ps w HC.out HCC.out HB.out (fun q hq => (HOK.out q hq).1)).mono ?_); rintro e w2 ⟨b, f, n, rfl, hL⟩; have HL := jA hL; clear hL))
 have HL2 := HL.out.move (below_alloc (Below.refl _ w2) (.cells #[.map (some b)] 248))
 have HL3 := HL2.move (below_alloc (Below.refl _ _) (.cells #[.string x] 9))
 have hv : ((w2.alloc (.cells #[.map (some b)] 248)).alloc (.cells #[.string x] 9)).cell? ⟨w2.heap.size, 0, none⟩ = some (.map (some b)) := by go_simp
 have hc1 : ((w2.alloc (.cells #[.map (some b)] 248)).alloc (.cells #[.string x] 9)).cell? ⟨w2.heap.size + 1, 0, none⟩ = some (.string x) := by go_simp
 have HV := jA hv
 have HC1 := jA (C_one (enc := Value.string) (h1 := fun _ => rfl) hc1)
 have HL3 := jA HL3
 clear hv hc1 HL2
 go_wp2_with (first | (go_at_call 136; (refine (close_calls (some ⟨w2.heap.size + 1, 0, none⟩) 1 x w2.heap.size b w _ f n ps HL3.out HV.out HC1.out HX.out HOK.out HB.out).mono ?_); rintro e w5 ⟨v, rfl, L, hR, hN, hS, hB5⟩; have HR5 := jA hR; have HN5 := jA hN; have HS5 := jA hS; have HB5 := jA hB5; clear hR hN hS hB5))
 go_ret
 exact ⟨_, rfl, L, Kd.R_lower HR5.out HL3.out.below.size, HN5.out, HS5.out, below_then HL3.out.below HL3.out.below.size HB5.out⟩
end Go.Proofs.YtdgkppldopiaoaaGreat.MClose
/- slices.Grow of nothing, slices.Concat of two lists of pairs: up to what two lists of the greatest size take together. -/
namespace Go.Proofs.YtdgkppldopiaoaaGreat.MConcat
open Go.RowKit YtdgkppldopiaoaaGreatW.PrintWords YtdgkppldopiaoaaGreatW.PrintLast YtdgkppldopiaoaaGreatW.PrintMore BMap BRow MLines MClose Go.Maps
open PG
section
variable {P : Program}
theorem run_zeros_nil (w : World) (t ti ty e : TypeId) (i : TypeInfo) (z : Value) (size bytes : Nat) (ht : P.underlying t = some (.slice e)) {k : IntKind} (hti : P.underlying ti = some (.int k)) (hi : P.info? e = some i) (hz : i.zero = some z)
  (hsize : i.size = size) (hby : i.bytes = bytes) (hzs : z.cells.size = size) (hsz : 0 < size) (hb0 : 0 < bytes) (base : Nat) (kx : IntKind) (m : Nat) (hm : 0 < m) (hbytes : m * bytes ≤ 281474976710656) (hbase : base ≤ w.heap.size) :
  ∃ w' cap, (Builtin.append_ #[t, ti] ty #[.slice none 0 0, .int kx m]).run P w = .ok (.slice (some ⟨w.heap.size, 0, none⟩) m cap) w' ∧ w'.ownsRow base e size (.slice (some ⟨w.heap.size, 0, none⟩) m cap) m (Builtin.zeroCells z.cells m).toList ∧ w.grownBy w' none := by
 subst hsize
 subst hby
 have hle : m ≤ 281474976710656 := Nat.le_trans (Nat.le_mul_of_pos_right _ hb0) hbytes
 have h63 : m ≤ maxLen := by simp only [maxLen]; omega
 have hw : IntKind.i64.wrap (m : Int) = m := by rw [IntKind.wrap_i64]; omega
 have hneg : ¬ ((m : Int) < 0) := by omega
 have hbig : ¬ (281474976710656 < (m : Int) * (i.bytes : Int)) := by
  rw [← Int.natCast_mul]
  omega
 have hsn : i.size ≠ 0 := by omega
 have hmz : ¬ (m * i.size = 0) := Nat.mul_ne_zero (by omega) hsn
 have hm0 : m ≠ 0 := by omega
 have h63' : ¬ (9223372036854775807 < (m : Int)) := by omega
 have hcap : Builtin.nextslicecap m 0 = m := by unfold Builtin.nextslicecap; rw [if_pos (by omega)]
 have h48' : ¬ (281474976710656 < Builtin.nextslicecap m 0 * i.bytes) := by rw [hcap]; omega
 have hfo : (Builtin.firstCells i.size 0 (.slice none 0 0)).run P w.drew = .ok #[] w.drew := by simp [Builtin.firstCells]
 have hge := grownCap_ge w m 0 e
 have hcm : grownCap w m 0 e ≤ maxLen := grownCap_le_maxLen w m 0 e (by omega)
 have hl : (Builtin.zeroCells z.cells m).toList.length = m * i.size := by rw [Array.length_toList, size_zeroCells, hzs]
 refine ⟨w.drew.alloc (.cells (#[] ++ Builtin.zeroCells z.cells m ++ Builtin.zeroCells z.cells (grownCap w m 0 e - m)) e), grownCap w m 0 e, ?_, ⟨hl, .inr ⟨w.heap.size, _, _, rfl, hbase, heap_alloc_new w.drew _, by omega, hcm, ?_, ?_⟩⟩, ⟨rfl, rfl, rfl, by simp, fun k hk _ => heap_alloc_old w.drew _ hk⟩⟩
 ·simp [Builtin.append_, run_underlying ht, run_underlying hti, sizeOf, typeInfo, zeroValue, hi, hz, asInt, asIntOf, hw, hneg, hbig, h63', h48', hm0, Question.forced, hfo, newRow, grownCap, hmz]
 ·simp only [Array.size_append, size_zeroCells, hzs, ← Nat.add_mul, List.size_toArray, List.length_nil, Nat.zero_add]
  congr 1
  omega
 ·simp only [Array.toList_append, List.nil_append]
  rw [← hl]
  exact List.take_left
theorem wpList_zeros_nil {ops : Array Oper} {rest : List Oper} {o : Oper} {a : Act} {Q : Exit → Act → World → Prop} (w : World) (hgd : o.guard = none) (s x : Operand) (t ti e : TypeId) (ho : o.op = .call { callee := .builtin .append, args := #[s, x], argTypes := #[t, ti] })
  (ht : P.underlying t = some (.slice e)) {k : IntKind} (hti : P.underlying ti = some (.int k)) (z : Value) (size bytes : Nat) (hinfo : (P.info? e).map (fun i => (i.zero, i.size, i.bytes)) = some (some z, size, bytes)) (hzs : z.cells.size = size) (hsz : 0 < size) (hb0 : 0 < bytes)
  (base : Nat) (kx : IntKind) (m : Nat) (hs : a.eval s = .slice none 0 0) (hx : a.eval x = .int kx m) (hm : 0 < m) (hbytes : m * bytes ≤ 281474976710656) (hbase : base ≤ w.heap.size)
  (h : ∀ w' g cap, w'.ownsRow base e size (.slice (some ⟨g, 0, none⟩) m cap) m (Builtin.zeroCells z.cells m).toList → w.grownBy w' none → m ≤ cap → wpList P ops Q rest (a.put o.dst (.slice (some ⟨g, 0, none⟩) m cap)) w') : wpList P ops Q (o :: rest) a w := by
 obtain ⟨i, hi, hzz⟩ := Option.map_eq_some_iff.1 hinfo
 simp only [Prod.mk.injEq] at hzz
 obtain ⟨hz0, hz1, hz2⟩ := hzz
 obtain ⟨w', cap, hr, hown, hg⟩ := run_zeros_nil (P := P) w t ti o.type e i z size bytes ht hti hi hz0 hz1 hz2 hzs hsz hb0 base kx m hm hbytes hbase
 have hcap : m ≤ cap := own_cap hown
 refine wpList_plain hgd fun K hK => ?_
 unfold Oper.wp execOp
 simp only [ho, resolve, invoke, builtin, Sem.run_bind, Sem.run_pure, Result.andThen_ok, List.map_toArray, List.map_cons, List.map_nil, hs, hx, hr]
 exact hK _ _ (h w' w.heap.size cap hown hg hcap)
end
def cs108 (xs : List S242) : List Value := xs.flatMap fun q => [.string q.f0, .string q.f1]
theorem cs108_length (xs : List S242) : (cs108 xs).length = xs.length * 2 := by
 induction xs with
 | nil => rfl
 | cons q r ih => simp [cs108] at ih ⊢; omega
theorem cs108_append (xs ys : List S242) : cs108 (xs ++ ys) = cs108 xs ++ cs108 ys := by simp [cs108]
theorem cs108_one (xs : List S242) : ∀ u ∈ cs108 xs, u.oneCell' = true := by
 intro u hu
 obtain ⟨q, _, h⟩ := List.mem_flatMap.1 hu
 simp only [List.mem_cons, List.not_mem_nil, or_false] at h
 rcases h with rfl | rfl <;> rfl
theorem cs108_get : ∀ (xs : List S242) (j : Nat) (h : j < xs.length), (cs108 xs)[j * 2]? = some (.string xs[j].f0) ∧ (cs108 xs)[j * 2 + 1]? = some (.string xs[j].f1)
 | q :: r, 0, _ => ⟨rfl, rfl⟩
 | q :: r, j + 1, h => by
  have := cs108_get r j (by simpa using h)
  have e1 : (j + 1) * 2 = j * 2 + 1 + 1 := by omega
  rw [e1]
  exact this
theorem C_cells {w : World} {A : Option Addr} {n : Nat} {xs : List S242} (h : Kd.C k242 w A n xs) (hn : 0 < n) : ∃ ad, A = some ad ∧ ∀ j u, (cs108 xs)[j]? = some u → w.cell? (ad.add j) = some u := by
 obtain ⟨ad, e, hc⟩ := h.2.2 hn
 refine ⟨ad, e, fun j u hu => ?_⟩
 have hj : j < xs.length * 2 := by have := (List.getElem?_eq_some_iff.1 hu).1; rwa [cs108_length] at this
 obtain ⟨k, hk⟩ : ∃ k, j = k * 2 ∨ j = k * 2 + 1 := ⟨j / 2, by omega⟩
 have hq : k < xs.length := by omega
 obtain ⟨c, _, hK, hcell⟩ := hc k xs[k] (List.getElem?_eq_getElem hq)
 have hK := k242_open hK
 subst hK
 obtain ⟨g0, g1⟩ := cs108_get xs k hq
 rcases hk with rfl | rfl
 ·rw [g0] at hu
  rw [← Option.some.inj hu]
  exact hcell 0 _ rfl
 ·rw [g1] at hu
  rw [← Option.some.inj hu]
  exact hcell 1 _ rfl
theorem C_of_cells {w : World} {ad : Addr} {xs : List S242} (hm : xs.length ≤ 9223372036854775807) (h : ∀ j u, (cs108 xs)[j]? = some u → w.cell? (ad.add j) = some u) : Kd.C k242 w (some ad) xs.length xs := by
 refine ⟨rfl, hm, fun _ => ⟨ad, rfl, fun j p hp => ?_⟩⟩
 obtain ⟨hj, rfl⟩ := List.getElem?_eq_some_iff.1 hp
 obtain ⟨g0, g1⟩ := cs108_get xs j hj
 refine ⟨[.string xs[j].f0, .string xs[j].f1], rfl, ⟨[.string xs[j].f0], [.string xs[j].f1], rfl, rfl, rfl⟩, fun i u hu => ?_⟩
 have hi : i < 2 := (List.getElem?_eq_some_iff.1 hu).1
 have : i = 0 ∨ i = 1 := by omega
 rcases this with rfl | rfl
 ·obtain rfl : Value.string xs[j].f0 = u := by simpa using hu
  exact h (j * 2) _ g0
 ·obtain rfl : Value.string xs[j].f1 = u := by simpa using hu
  exact h (j * 2 + 1) _ g1
def Roomy (n N : Nat) (v : Value) : Prop := (N = 0 ∧ v = .slice none 0 0) ∨ ∃ g cap, v = .slice (some ⟨g, 0, none⟩) n cap ∧ N ≤ cap
structure Held (w0 w : World) (v : Value) (xs : List S242) (N : Nat) : Prop where
 own : w.ownsRow w0.heap.size 242 2 v xs.length (cs108 xs)
 room : Roomy xs.length N v
 below : Below w0.heap.size w0 w
theorem Held.read {w0 w : World} {v : Value} {xs : List S242} {N : Nat} (h : Held w0 w v xs N) (hm : xs.length ≤ N) (h63 : N ≤ 9223372036854775807) : ∃ A c, v = .slice A xs.length c ∧ xs.length ≤ c ∧ Kd.C k242 w A xs.length xs := by
 rcases h.room with ⟨rfl, rfl⟩ | ⟨g, cap, rfl, hc⟩
 ·obtain rfl : xs = [] := List.eq_nil_of_length_eq_zero (by omega)
  exact ⟨none, 0, rfl, Nat.le_refl _, rfl, by simp, fun h => absurd h (by simp)⟩
 ·exact ⟨_, _, rfl, by omega, C_of_cells (by omega) (h.own.cells (g := g) rfl)⟩
theorem firstCells0 (size : Nat) (A : Option Addr) (c : Nat) (w : World) : (Builtin.firstCells size 0 (.slice A 0 c)).run Tryz.prog w = .ok #[] w := by
 cases A <;> simp [Builtin.firstCells, loadCells, loadCellsFrom]
theorem wpList_app163 {ops : Array Oper} {rest : List Oper} {o : Oper} {a : Act} {Q : Exit → Act → World → Prop} {w0 w : World} (hgd : o.guard = none) (s x : Operand) (ho : o.op = .call { callee := .builtin .append, args := #[s, x], argTypes := #[78, 78] })
  (v : Value) (xs ys : List S242) (N : Nat) {A : Option Addr} {c : Nat} (hs : a.eval s = v) (hx : a.eval x = .slice A ys.length c) (H : Held w0 w v xs N) (hC : Kd.C k242 w A ys.length ys) (hroom : xs.length + ys.length ≤ N)
  (h : ∀ v' w', Held w0 w' v' (xs ++ ys) N → wpList Tryz.prog ops Q rest (a.put o.dst v') w') : wpList Tryz.prog ops Q (o :: rest) a w := by
 obtain ⟨i, hi, hzz⟩ := Option.map_eq_some_iff.1 info242
 simp only [Prod.mk.injEq] at hzz
 obtain ⟨hz0, hz1, hz2⟩ := hzz
 have h32 : (Tryz.prog.underlying 78).isSome = true := by rw [Tryz.underlying78]; rfl
 refine wpList_plain hgd fun K hK => ?_
 have key : ∃ v' w', (Builtin.append_ #[78, 78] o.type #[v, .slice A ys.length c]).run Tryz.prog w = .ok v' w' ∧ Held w0 w' v' (xs ++ ys) N := by
  rcases H.room with ⟨rfl, rfl⟩ | ⟨g, cap, rfl, hc⟩
  ·obtain rfl : xs = [] := List.eq_nil_of_length_eq_zero (by omega)
   obtain rfl : ys = [] := List.eq_nil_of_length_eq_zero (by omega)
   refine ⟨.slice none 0 0, w, ?_, H⟩
   simp [Builtin.append_, run_underlying Tryz.underlying78, sizeOf, typeInfo, hi, Builtin.lenOf, firstCells0]
  ·rcases Nat.eq_zero_or_pos ys.length with h0 | h0
   ·obtain rfl : ys = [] := List.eq_nil_of_length_eq_zero h0
    refine ⟨.slice (some ⟨g, 0, none⟩) xs.length cap, w, ?_, by rw [List.append_nil]; exact H⟩
    have hle : xs.length ≤ cap := by omega
    simp [Builtin.append_, run_underlying Tryz.underlying78, sizeOf, typeInfo, hi, Builtin.lenOf, firstCells0, hle, storeCells]
   ·obtain ⟨ad, rfl, hcell⟩ := C_cells hC h0
    obtain ⟨w', hr, h2, h3⟩ := run_append_own_spare (P := Tryz.prog) w w0.heap.size 78 o.type 242 i 2 Tryz.underlying78 hi hz1 g xs.length cap (cs108 xs) H.own ad ys.length c (cs108 ys) (cs108_length ys) hcell (cs108_one ys) (by omega)
    refine ⟨_, w', hr, ⟨by rw [List.length_append, cs108_append]; exact h2, by rw [List.length_append]; exact .inr ⟨g, cap, rfl, hc⟩, H.below.grown h3 H.below.size (fun k hk => by cases hk; exact own_base H.own g rfl)⟩⟩
 obtain ⟨v', w', hr, hH⟩ := key
 unfold Oper.wp execOp
 simp only [ho, resolve, invoke, builtin, Sem.run_bind, Sem.run_pure, Result.andThen_ok, List.map_toArray, List.map_cons, List.map_nil, hs, hx, hr]
 exact hK _ _ (h v' w' hH)
theorem grow_calls (n : Nat) (w0 w : World) (hn : n ≤ 8796093021952) (hb : Below w0.heap.size w0 w) :
  Calls Tryz.prog 138 #[.slice none 0 0, .int .i64 n] w fun e w' => ∃ v, e = .returned v ∧ Held w0 w' v [] n := by
 by_cases h0 : n = 0
 ·subst h0
  go_enter Tryz.func138, Tryz.ntmps138
  go_wp2
  go_ret
  exact ⟨_, rfl, World.ownsRow_nil w _ _ _, .inl ⟨rfl, rfl⟩, hb⟩
 ·have hpos : (0 : Int) < (n : Int) := by omega
  have hp := jA (show 0 < n by omega)
  have HN := jA hn
  have HB := jA hb
  clear hb h0
  go_enter Tryz.func138, Tryz.ntmps138
  go_wp2_with (first | ((with_reducible refine gate_builtin (b := .append) (xs := #[.tmp 20, .tmp 21]) rfl ?_); at_builtin; refine wpList_zeros_nil w rfl (.tmp 20) (.tmp 21) 78 3 242 rfl Tryz.underlying78 Tryz.underlying3 (.agg #[.string ⟨#[]⟩, .string ⟨#[]⟩]) 2 32 info242 rfl (by decide) (by decide) w0.heap.size .i64 n rfl rfl hp.out ?hb HB.out.size ?_; (case hb => have := HN.out; omega); intro w2 g cap hown hg hcap; have HOWN := jA hown; have HG := jA hg; have HCAP := jA hcap; clear hown hg hcap))
  go_ret
  exact ⟨_, rfl, own_take HOWN.out (Nat.zero_le _), .inr ⟨g, cap, rfl, HCAP.out⟩, HB.out.grown HG.out HB.out.size (fun k hk => by cases hk)⟩
def pre (near far : List S242) (k : Nat) : List S242 := if k = 0 then [] else if k = 1 then near else near ++ far
def sums (n N : Nat) (k : Nat) : Nat := if k = 0 then 0 else if k = 1 then n else N
theorem concat_calls (A1 : Option Addr) (c1 : Nat) (near : List S242) (A2 : Option Addr) (c2 : Nat) (far : List S242) (b : Nat) (w : World) (hc0 : w.cell? ⟨b, 0, none⟩ = some (.slice A1 near.length c1)) (hc1 : w.cell? ⟨b, 1, none⟩ = some (.slice A2 far.length c2))
  (h1 : Kd.C k242 w A1 near.length near) (h2 : Kd.C k242 w A2 far.length far) (hsum : near.length + far.length ≤ 8796093021952) :
  Calls Tryz.prog 129 #[.slice (some ⟨b, 0, none⟩) 2 2] w fun e w' => ∃ v, e = .returned v ∧ Held w w' v (near ++ far) (near.length + far.length) := by
 have H1 := jA h1
 have H2 := jA h2
 clear h1 h2
 obtain ⟨N, hN⟩ : ∃ N, N = near.length + far.length := ⟨_, rfl⟩
 rw [← hN] at hsum ⊢
 have HC0 := jA hc0
 have HC1 := jA hc1
 go_enter Tryz.func129, Tryz.ntmps129
 go_wp2
 go_loopw [3, 11] (fun v3 v11 wr => ∃ k : Nat, k ≤ 2 ∧ v3 = .int .i64 (sums near.length N k) ∧ v11 = .int .i64 k ∧ wr = w) (fun _ v11 _ => 2 - (intOf v11).toNat)
 case atStart => exact ⟨0, by omega, rfl, rfl, rfl⟩
 case round =>
  obtain ⟨k, hk, rfl, rfl, hw⟩ := hrel
  have hw := hw.symm
  subst hw
  have h3 : k = 0 ∨ k = 1 ∨ k = 2 := by omega
  rcases h3 with rfl | rfl | rfl
  ·rw [show sums near.length N 0 = 0 from rfl]
   go_wp2
   go_roundw
   case rel => exact ⟨1, by omega, rfl, rfl, trivial⟩
   case measure => simp [intOf]
  ·rw [show sums near.length N 1 = near.length from rfl]
   go_wp2
   go_roundw
   case rel => exact ⟨2, by omega, by show _ = Value.int .i64 (N : Int); go_num, rfl, trivial⟩
   case measure => simp [intOf]
  ·rw [show sums near.length N 2 = N from rfl]
   have HN := jA hN
   clear hN
   go_upto_region 10 with (first | (go_at_call 138; (with_reducible refine (grow_calls N w w hsum (Below.refl _ _)).mono ?_); rintro e w2 ⟨v, rfl, hH⟩; have HH := jA hH; clear hH))
   have e0 := pw_cell_below HH.out.below HC0.out
   have e1 := pw_cell_below HH.out.below HC1.out
   go_wp2
   go_loopw [6, 27] (fun v6 v27 wq => ∃ k : Nat, k ≤ 2 ∧ v27 = .int .i64 k ∧ Aside0 (Held w wq v6 (pre near far k) N)) (fun _ v27 _ => 2 - (intOf v27).toNat)
   case atStart => exact ⟨0, by omega, rfl, HH⟩
   case round =>
    obtain ⟨k, hk, rfl, HR⟩ := hrel
    have h3 : k = 0 ∨ k = 1 ∨ k = 2 := by omega
    have e0 := pw_cell_below HR.out.below HC0.out
    have e1 := pw_cell_below HR.out.below HC1.out
    rcases h3 with rfl | rfl | rfl
    ·go_wp2_with (first | ((with_reducible refine gate_builtin (b := .append) (xs := #[.tmp 31, .tmp 32]) rfl ?_); at_builtin; refine wpList_app163 (w0 := w) rfl (.tmp 31) (.tmp 32) rfl _ [] near N rfl rfl HR.out (Kd.C_below H1.out HR.out.below) (by have := HN.out; simp; omega) ?_; intro v' w' hH'; have HH' := jA hH'; clear hH'))
     go_roundw
     case rel => exact ⟨1, by omega, rfl, HH'⟩
     case measure => simp [intOf]
    ·go_wp2_with (first | ((with_reducible refine gate_builtin (b := .append) (xs := #[.tmp 31, .tmp 32]) rfl ?_); at_builtin; refine wpList_app163 (w0 := w) rfl (.tmp 31) (.tmp 32) rfl _ near far N rfl rfl HR.out (Kd.C_below H2.out HR.out.below) (by have := HN.out; omega) ?_; intro v' w' hH'; have HH' := jA hH'; clear hH'))
     go_roundw
     case rel => exact ⟨2, by omega, rfl, HH'⟩
     case measure => simp [intOf]
    ·go_wp2
     go_ret
     exact ⟨_, rfl, HR.out⟩
end Go.Proofs.YtdgkppldopiaoaaGreat.MConcat
