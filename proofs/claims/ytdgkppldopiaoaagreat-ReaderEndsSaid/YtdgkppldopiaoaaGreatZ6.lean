/- Of this session's texts, what the row uses: PHx1, PHx2, RPage, RPput, RLay, RHouse, REval, RAlive, EEnds, EMain. -/
import Derived.Test.YtdgkppldopiaoaaGreatZ5
import Derived.Deep.DeepCutAuto
import Derived.ArgAppend
import Derived.Laws.CopyRow
import Derived.Test.YtdgkppldopiaoaaGreatZ4
set_option linter.unusedSimpArgs false
set_option linter.unusedVariables false
set_option maxHeartbeats 8000000
set_option maxRecDepth 100000
namespace Go.Proofs.YtdgkppldopiaoaaGreat.PH
open YtdgkppldopiaoaaGreatF
attribute [local go_sem high] run_feq run_fne run_flt_lt run_flt_le run_flt_gt run_flt_ge
open Go.RowKit YtdgkppldopiaoaaGreatW.PrintWords YtdgkppldopiaoaaGreatW.PrintLast YtdgkppldopiaoaaGreatW.PrintMore
attribute [local go_sem] max2_int min2_int max_two min_two max_three min_three max_four min_four
def slices_Max_int_int.l0 : Nat → List Int → Int → Int → Option (Int)
 | 0, _, _, _ => none
 | k + 1, x0, x3, x4 => if x4 < (x0.length : Int) then (if 0 ≤ x4 then (slices_Max_int_int.l0 k x0 (mx x3 (rd x0 x4)) (wrap64 (x4 + 1))) else (none)) else (some x3)
def slices_Max_int_int.f (k : Nat) (l0 : List Int) : Option (Int) := if (l0.length : Int) < 1 then (none) else (if 0 < (l0.length : Int) then (slices_Max_int_int.l0 k l0 (rd l0 0) 1) else (none))
theorem slices_Max_int_int.calls (k : Nat) (A0 : Option Addr) (c0 : Nat) (l0 : List Int) (r : Int) (w : World) (hr0 : Kd.C (Kd.int .i64) w A0 l0.length l0) (hc0 : l0.length ≤ c0) (h : slices_Max_int_int.f k l0 = some r) :
  Calls Tryz.prog 91 #[.slice A0 l0.length c0] w fun e w' => e = .returned (.int .i64 r) ∧ Below w.heap.size w w' := by
 have HR0 := jA hr0
 have HC0 := jA hc0
 clear hr0 hc0
 have HB := jA (Below.refl w.heap.size w)
 have H : (if (l0.length : Int) < 1 then (none) else (if 0 < (l0.length : Int) then (slices_Max_int_int.l0 k l0 (rd l0 0) 1) else (none))) = some r := h
 clear h
 by_cases c2 : (l0.length : Int) < 1
 ·rw [if_pos c2] at H
  exact absurd H (by simp)
 ·rw [if_neg c2] at H
  have c2b0 : decide ((l0.length : Int) < 1) = false := decide_eq_false c2
  have c2b1 : decide (l0.length < 1) = false := decide_eq_false (by omega)
  clear c2
  by_cases c3 : 0 < (l0.length : Int)
  ·rw [if_pos c3] at H
   have c3b0 : decide (0 < (l0.length : Int)) = true := decide_eq_true c3
   have c3b1 : decide (0 < l0.length) = true := decide_eq_true (by omega)
   clear c3
   have H' := jA H
   clear H
   have Ze : 0 ≤ (0 : Int) := (by omega)
   have Zf : 0 < (l0.length : Int) := of_decide_eq_true (by first | (with_reducible assumption) | assumption)
   obtain ⟨Zj, Zl, Zb⟩ := Kd.at_int HR0.out 0 Ze Zf
   cases Zl
   have Zn : (0 < l0.length) = True := eq_true (by omega)
   (try rw [show ((0 : Int)).toNat = 0 from rfl] at Zb)
   (try rw [Addr.add_zero'] at Zb)
   replace Ze := eq_true Ze
   replace Zf := eq_true Zf
   go_enter Tryz.func91, Tryz.ntmps91
   go_wp2
   go_loopg [3, 4] k (fun kq v3 v4 w' => ∃ (Zd : Int) (Za : Int), v3 = .int .i64 Zd ∧ v4 = .int .i64 Za ∧ Aside0 (slices_Max_int_int.l0 kq l0 Zd Za = some r) ∧ Aside0 (kq ≤ k) ∧ Aside0 (Below w.heap.size w w'))
   case atStart => exact ⟨(rd l0 0), (1), (by first | rfl | (simp; done) | (simp [*]; done)), (by first | rfl | (simp; done) | (simp [*]; done)), H', ⟨Nat.le_refl _⟩, ⟨by repeat (first | (with_reducible first | exact HB.out | apply below_alloc | apply pw_below_drewN | apply below_drew1) | exact HB.out)⟩⟩
   case round =>
    clear H'
    try clear p1
    try clear q1
    try clear hx1
    try clear qi1
    try clear c2
    try clear c2b0
    try clear c2b1
    try clear p2
    try clear c3
    try clear c3b0
    try clear c3b1
    try clear Zb
    try clear Ze
    try clear Zf
    obtain ⟨Zd, Za, rfl, rfl, HA, HK1, HB⟩ := hrel
    cases gk with
    | zero => exact absurd HA.out (by simp [slices_Max_int_int.l0])
    | succ k1 =>
     have H := HA.out
     clear HA
     simp only [slices_Max_int_int.l0] at H
     by_cases c4 : Za < (l0.length : Int)
     ·rw [if_pos c4] at H
      have c4b0 : decide (Za < (l0.length : Int)) = true := decide_eq_true c4
      clear c4
      by_cases c5 : 0 ≤ Za
      ·rw [if_pos c5] at H
       have c5b0 : decide (0 ≤ Za) = true := decide_eq_true c5
       clear c5
       obtain ⟨ji6, Zg⟩ : ∃ j_ : Int, (mx Zd (rd l0 Za)) = j_ := ⟨_, rfl⟩
       replace H : (slices_Max_int_int.l0 k1 l0 ji6 (wrap64 (Za + 1))) = some r := by first | (rw [Zg] at H; exact H) | (simp only [Zg] at H ⊢; exact H)
       have Zo : (if Zd < (rd l0 Za) then (rd l0 Za) else Zd) = ji6 := Zg
       have H' := jA H
       clear H
       have Zh : 0 ≤ (Za : Int) := of_decide_eq_true (by first | (with_reducible assumption) | assumption)
       have Zi : Za < (l0.length : Int) := of_decide_eq_true (by first | (with_reducible assumption) | assumption)
       obtain ⟨Zk, Zm, Zc⟩ := Kd.at_int HR0.out Za Zh Zi
       obtain rfl : Zj = Zk := (by injection Zm)
       replace Zc := (HB.out.cell (World.block_lt_of_cell? w _ Zc)).trans Zc
       replace Zh := eq_true Zh
       replace Zi := eq_true Zi
       go_wp2
       go_roundg k1
       case measure => have := HK1.out; omega
       case rel => exact ⟨(ji6), (wrap64 (Za + 1)), (by first | rfl | (simp; done) | (simp only [← Zg] <;> (first | rfl | simp)) | (simp [*]; done)), (by first | rfl | (simp; done) | (simp [*]; done)), H', ⟨by have := HK1.out; omega⟩, ⟨by repeat (first | (with_reducible first | exact HB.out | apply below_alloc | apply pw_below_drewN | apply below_drew1) | exact HB.out)⟩⟩
      ·rw [if_neg c5] at H
       exact absurd H (by simp)
     ·rw [if_neg c4] at H
      have c4b0 : decide (Za < (l0.length : Int)) = false := decide_eq_false c4
      clear c4
      obtain rfl := Option.some.inj H
      go_wp2
      go_ret
      exact ⟨by first | rfl | (simp [errW_none, errW_some] <;> rfl) | (simp [*, errW_none, errW_some] <;> rfl), by repeat (first | (with_reducible first | exact HB.out | apply below_alloc | apply pw_below_drewN | apply below_drew1) | exact HB.out)⟩
  ·rw [if_neg c3] at H
   exact absurd H (by simp)
end Go.Proofs.YtdgkppldopiaoaaGreat.PH
namespace Go.Proofs.YtdgkppldopiaoaaGreat.PH
open YtdgkppldopiaoaaGreatF
attribute [local go_sem high] run_feq run_fne run_flt_lt run_flt_le run_flt_gt run_flt_ge
open Go.RowKit YtdgkppldopiaoaaGreatW.PrintWords YtdgkppldopiaoaaGreatW.PrintLast YtdgkppldopiaoaaGreatW.PrintMore
attribute [local go_sem] max2_int min2_int max_two min_two max_three min_three max_four min_four
def page_classes.f (k : Nat) (l0 : List Int) : Option (Int) := if (l0.length : Int) = 0 then (some 0) else ((slices_Max_int_int.f k l0).bind fun Za => (some Za))
theorem page_classes.calls (k : Nat) (A0 : Option Addr) (c0 : Nat) (l0 : List Int) (r : Int) (w : World) (hr0 : Kd.C (Kd.int .i64) w A0 l0.length l0) (hc0 : l0.length ≤ c0) (h : page_classes.f k l0 = some r) :
  Calls Tryz.prog 66 #[.slice A0 l0.length c0] w fun e w' => e = .returned (.int .i64 r) ∧ Below w.heap.size w w' := by
 have HR0 := jA hr0
 have HC0 := jA hc0
 clear hr0 hc0
 have HB := jA (Below.refl w.heap.size w)
 have H : (if (l0.length : Int) = 0 then (some 0) else ((slices_Max_int_int.f k l0).bind fun Za => (some Za))) = some r := h
 clear h
 by_cases c2 : (l0.length : Int) = 0
 ·rw [if_pos c2] at H
  have c2b0 : ((l0.length : Int) == 0) = true := beq_iff_eq.mpr c2
  have c2b1 : ((l0.length : Int) != 0) = false := bne_eq_false_iff_eq.mpr c2
  clear c2
  obtain rfl := Option.some.inj H
  go_enter Tryz.func66, Tryz.ntmps66
  go_wp2
  go_ret
  exact ⟨by first | rfl | (simp [errW_none, errW_some] <;> rfl) | (simp [*, errW_none, errW_some] <;> rfl), by repeat (first | (with_reducible first | exact HB.out | apply below_alloc | apply pw_below_drewN | apply below_drew1) | exact HB.out)⟩
 ·rw [if_neg c2] at H
  have c2b0 : ((l0.length : Int) == 0) = false := beq_eq_false_iff_ne.mpr c2
  have c2b1 : ((l0.length : Int) != 0) = true := bne_iff_ne.mpr c2
  have c2b2 : ¬ (l0 = []) := fun h_ => c2 (by rw [h_]; rfl)
  replace H := Option.bind_eq_some_iff.mp H
  obtain ⟨Za, A30, H⟩ := H
  replace H : (some Za) = some r := H
  have A3 := jA A30
  clear A30
  obtain rfl := Option.some.inj H
  go_enter Tryz.func66, Tryz.ntmps66
  go_wp2_with (first | ((with_reducible refine gate_callee (f := 91) rfl ?_); refine goesL_ (some 7) rfl rfl Tryz.func91 (by kernel_rfl) rfl #[.slice A0 l0.length c0] rfl (by (try simp only [List.map_toArray, List.map_cons, List.map_nil]); first | done | rfl | (simp only [List.length_drop, List.length_take]; rfl)) ?_; (with_reducible refine (slices_Max_int_int.calls k _ _ l0 Za _ ?Zb ?Zc A3.out).mono ?_); (case Zb => repeat (first | exact HR0.out | (with_reducible refine Kd.C_alloc ?_ _) | (with_reducible refine Kd.C_drewN ?_ _) | (with_reducible refine Kd.C_drew ?_))); (case Zc => exact HC0.out); rintro e w4 ⟨rfl, hb⟩; refine ⟨_, rfl, ?_⟩; have n0_ := jA (below_step (by repeat (first | (with_reducible first | exact HB.out | apply below_alloc | apply pw_below_drewN | apply below_drew1) | exact HB.out)) hb); clear HB; have HB := n0_; clear n0_; (try clear hb); (try clear hb2); (try clear hk); (try clear hi)))
  go_ret
  exact ⟨by first | rfl | (simp [errW_none, errW_some] <;> rfl) | (simp [*, errW_none, errW_some] <;> rfl), by repeat (first | (with_reducible first | exact HB.out | apply below_alloc | apply pw_below_drewN | apply below_drew1) | exact HB.out)⟩
end Go.Proofs.YtdgkppldopiaoaaGreat.PH
/- page.Size, page.room of the graph of one("ann"), walked. -/
namespace Go.Proofs.YtdgkppldopiaoaaGreat.RPage
open Go.RowKit YtdgkppldopiaoaaGreatW.PrintWords YtdgkppldopiaoaaGreatW.PrintLast YtdgkppldopiaoaaGreatW.PrintMore BMap BRow GDiffer GValid VPure MLines MPol MPut RMem RCells REpoch RMach RCput RRun RIndex ROne Go.Maps
open PG
set_option maxHeartbeats 1000000
set_option maxRecDepth 100000
structure Ad where
 A0 : Option Addr
 c0 : Nat
 A1 : Option Addr
 c1 : Nat
 A2 : Option Addr
 c2 : Nat
 A3 : Option Addr
 c3 : Nat
 A4 : Option Addr
 c4 : Nat
 A5 : Option Addr
 c5 : Nat
def Ad.g (a : Ad) : G := ⟨a.A0, a.c0, [bOpen], a.A1, a.c1, [bAnn, bBob], a.A2, a.c2, [bDoor], a.A3, a.c3, [1, 2], a.A4, a.c4, [1], a.A5, a.c5, [[1], [0]]⟩
def Ad.v (a : Ad) : Array Value := #[.slice a.A0 1 a.c0, .slice a.A1 2 a.c1, .slice a.A2 1 a.c2, .slice a.A3 2 a.c3, .slice a.A4 1 a.c4, .slice a.A5 2 a.c5]
theorem G1.ad {g : G} (h : G1 g) : ∃ a : Ad, g = a.g := by
 obtain ⟨A0, c0, la, A1, c1, ls, A2, c2, lo, A3, c3, of, A4, c4, on, A5, c5, ms⟩ := g
 obtain ⟨h0, h1, h2, h3, h4, h5⟩ := h
 simp only at h0 h1 h2 h3 h4 h5
 subst h0 h1 h2 h3 h4 h5
 exact ⟨⟨A0, c0, A1, c1, A2, c2, A3, c3, A4, c4, A5, c5⟩, rfl⟩
open Classical in
theorem is_valid1 : validB [bOpen] [bAnn, bBob] [bDoor] [1, 2] [1] [[1], [0]] = true := by
 refine decide_eq_true ?_
 unfold validP
 refine ⟨by decide, by decide, by decide, rfl, rfl, by decide +kernel, by decide +kernel, by decide +kernel, 2, 1, by decide +kernel, by decide +kernel, ⟨rfl, ?_⟩, by decide +kernel, by decide +kernel⟩
 intro row hr
 have hr : row = [1] ∨ row = [0] := by simpa using hr
 rcases hr with rfl | rfl
 ·refine ⟨rfl, fun x hx => ?_⟩
  rw [List.mem_singleton.1 hx]
  decide
 ·refine ⟨rfl, fun x hx => ?_⟩
  rw [List.mem_singleton.1 hx]
  decide
theorem valid1 (a : Ad) (w : World) (h : a.g.In w) : Calls Tryz.prog 62 #[.agg a.v] w fun e w' => e = .returned (.bool true) ∧ Below w.heap.size w w' := by
 have := valid_calls a.g w h
 rw [show validB a.g.la a.g.ls a.g.lo a.g.of a.g.on a.g.ms = true from is_valid1] at this
 exact this
theorem places1 (a : Ad) (w : World) (h : a.g.In w) : Calls Tryz.prog 64 #[.agg a.v] w fun e w' => e = .returned (.int .i64 8) ∧ Below w.heap.size w w' :=
 page_places.calls 10 a.A0 a.c0 [bOpen] a.A1 a.c1 [bAnn, bBob] a.A2 a.c2 [bDoor] a.A3 a.c3 [1, 2] a.A4 a.c4 [1] a.A5 a.c5 [[1], [0]] 8 w h.h0 h.l0 h.h1 h.l1 h.h2 h.l2 h.h3 h.l3 h.h4 h.l4 h.h5 h.l5 (by kernel_rfl)
theorem class3 (a : Ad) (w : World) (h : a.g.In w) : Calls Tryz.prog 66 #[.slice a.A3 2 a.c3] w fun e w' => e = .returned (.int .i64 2) ∧ Below w.heap.size w w' :=
 PH.page_classes.calls 10 a.A3 a.c3 [1, 2] 2 w h.h3 h.l3 (by kernel_rfl)
theorem class4 (a : Ad) (w : World) (h : a.g.In w) : Calls Tryz.prog 66 #[.slice a.A4 1 a.c4] w fun e w' => e = .returned (.int .i64 1) ∧ Below w.heap.size w w' :=
 PH.page_classes.calls 10 a.A4 a.c4 [1] 1 w h.h4 h.l4 (by kernel_rfl)
theorem i59 : (Tryz.prog.info? 142).map (·.size) = some 6 := by kernel_rfl
theorem boxB {w w1 : World} {b : Nat} {cs : Array Value} {t : TypeId} (h : w.heap[b]? = some (.cells cs t (0, 0))) (hb : Below w.heap.size w w1) : w1.heap[b]? = some (.cells cs t (0, 0)) := (hb.block _ (Array.getElem?_eq_some_iff.1 h).1).trans h
theorem size_calls (a : Ad) (w : World) (h : a.g.In w) : Calls Tryz.prog 65 #[.agg a.v] w fun e w' => e = .returned (.int .i64 22) ∧ Below w.heap.size w w' := by
 obtain ⟨w1, hw1⟩ : ∃ q, q = w.alloc (.cells a.v 142) := ⟨_, rfl⟩
 have hb1 : Below w.heap.size w w1 := by rw [hw1]; exact below_alloc (Below.refl _ _) _
 have ht1 : w1.heap[w.heap.size]? = some (.cells a.v 142 (0, 0)) := by rw [hw1]; exact heap_alloc_new w _
 have hg1 := h.below hb1
 have HQ1 := jA (valid1 a w1 hg1)
 have HG1 := jA hg1
 have HT1 := jA ht1
 have HB1 := jA hb1
 have HC1 := jA (cells7 (vs := a.v.toList) ht1)
 have HI := jA (show (Tryz.prog.info? 142).map (·.size) = some a.v.toList.length from i59)
 have HW1 := jA hw1
 clear hb1 ht1 hg1 hw1 h
 obtain ⟨av, hav⟩ : ∃ q, q = a.v := ⟨_, rfl⟩
 have HAV := jA hav
 rw [← hav] at HQ1 HT1 HC1 HI HW1 ⊢
 clear hav
 go_enter Tryz.func65, Tryz.ntmps65
 go_upto_region 1 with fail
 rw [← HW1.out]
 go_upto_region 3 with (first | ((with_reducible refine gate_dst (N := 3) rfl ?_); refine wpList_load_at rfl 142 (.tmp 1) rfl ⟨w.heap.size, 0, none⟩ ?hx av.toList HC1.out _ Tryz.underlying142 rfl HI.out ?_; (case hx => rfl)) | (go_at_call 62; (refine HQ1.out.mono ?_); rintro e w2 ⟨rfl, hb2⟩; have HB2 := jA hb2; clear hb2))
 have hT2 := boxB HT1.out HB2.out
 have hg2 := HG1.out.below HB2.out
 have HQ2 := jA (show Calls Tryz.prog 64 #[.agg av] w2.drew _ from by rw [HAV.out]; exact places1 a w2.drew hg2.drew)
 have hB2 := below_drew (below_then HB1.out HB1.out.size HB2.out)
 have HG2 := jA hg2
 have HB12 := jA hB2
 clear hg2 hB2
 refine start_ (n := 13) (S := fun w' => w'.heap[w.heap.size]? = some (.cells av 142 (0, 0))) (ds := []) (Jb 13 0) (by kernel_rfl) rfl (by kernel_rfl) hT2 (fun hHeld => ?_)
 refine Jk 0 6 (Jb 13 1) rfl rfl hHeld (.inl ⟨by rfl, by rintro w' s0; exact exec_load_at 142 _ rfl ⟨w.heap.size, 0, none⟩ rfl av.toList (cells7 (vs := av.toList) s0) _ Tryz.underlying142 rfl HI.out⟩) ?_
 refine Jp 4 10 (Jb 13 17) rfl rfl ?_
 refine Jk 5 11 (Jb 13 49) rfl rfl hHeld (.inl ⟨by rfl, by rintro w' s0; have cc := (cellOf s0 3 (.slice a.A3 2 a.c3) (by rw [HAV.out]; rfl)); go_simp; with_reducible rfl⟩) ?_
 refine Jp 7 13 (Jb 13 177) rfl rfl ?_
 refine Jk 8 14 (Jb 13 433) rfl rfl hHeld (.inl ⟨by rfl, by rintro w' s0; have cc := (cellOf s0 4 (.slice a.A4 1 a.c4) (by rw [HAV.out]; rfl)); go_simp; with_reducible rfl⟩) ?_
 refine one_ (i := 1) (N := some 7) (Jb 13 435) rfl rfl (by kernel_rfl) (by decide) (fun K hK => ?_)
 refine goes_ Tryz.func64 (by kernel_rfl) rfl #[.agg av] (by rfl) rfl rfl (by (try simp only [List.map_toArray, List.map_cons, List.map_nil]); first | done | rfl) ?_
 refine HQ2.out.mono ?_
 rintro e w3 ⟨rfl, hb3⟩
 refine ⟨_, rfl, ?_⟩
 have hT3 := boxB (show w2.drew.heap[w.heap.size]? = _ from hT2) hb3
 have HB3 := jA hb3
 refine hK.out _ _ hT3 (fun hHeld => ?_)
 clear hK K hb3
 refine norm_ (a' := ?_) ?_ ?_; rotate_left; (show Act.put _ (some 7) _ = _; simp only [Act.put, Jq, Jr, Js]; rfl)
 refine Jp 2 8 (Jb 13 439) rfl rfl ?_
 refine Jp 3 9 (Jb 13 447) rfl rfl ?_
 refine one_ (i := 6) (N := some 12) (Jb 13 511) rfl rfl (by kernel_rfl) (by decide) (fun K hK => ?_)
 refine goes_ Tryz.func66 (by kernel_rfl) rfl #[.slice a.A3 2 a.c3] (by rfl) rfl rfl (by (try simp only [List.map_toArray, List.map_cons, List.map_nil]); first | done | rfl) ?_
 refine (class3 a w3 (HG2.out.drew.below HB3.out)).mono ?_
 rintro e w4 ⟨rfl, hb4⟩
 refine ⟨_, rfl, ?_⟩
 have hT4 := boxB (show w3.heap[w.heap.size]? = _ from hT3) hb4
 have HB4 := jA hb4
 refine hK.out _ _ hT4 (fun hHeld => ?_)
 clear hK K hb4
 refine norm_ (a' := ?_) ?_ ?_; rotate_left; (show Act.put _ (some 12) _ = _; simp only [Act.put, Jq, Jr, Js]; rfl)
 refine one_ (i := 9) (N := some 15) (Jb 13 1023) rfl rfl (by kernel_rfl) (by decide) (fun K hK => ?_)
 refine goes_ Tryz.func66 (by kernel_rfl) rfl #[.slice a.A4 1 a.c4] (by rfl) rfl rfl (by (try simp only [List.map_toArray, List.map_cons, List.map_nil]); first | done | rfl) ?_
 refine (class4 a w4 ((HG2.out.drew.below HB3.out).below HB4.out)).mono ?_
 rintro e w5 ⟨rfl, hb5⟩
 refine ⟨_, rfl, ?_⟩
 have hT5 := boxB (show w4.heap[w.heap.size]? = _ from hT4) hb5
 have HB5 := jA hb5
 refine hK.out _ _ hT5 (fun hHeld => ?_)
 clear hK K hb5
 refine norm_ (a' := ?_) ?_ ?_; rotate_left; (show Act.put _ (some 15) _ = _; simp only [Act.put, Jq, Jr, Js]; rfl)
 refine Jp 10 16 (Jb 13 2047) rfl rfl ?_
 refine Jp 11 17 (Jb 13 4095) rfl rfl ?_
 refine Jp 12 2 (Jb 13 8191) rfl rfl ?_
 refine done_ (by kernel_rfl) ?_
 go_wp2
 go_ret
 exact ⟨rfl, below_then (below_then (below_then HB12.out HB12.out.size HB3.out) (below_then HB12.out HB12.out.size HB3.out).size HB4.out) (below_then (below_then HB12.out HB12.out.size HB3.out) (below_then HB12.out HB12.out.size HB3.out).size HB4.out).size HB5.out⟩
theorem ok4 : ∀ s, (s = bOpen ∨ s = bAnn ∨ s = bBob ∨ s = bDoor) → okS s := by
 rintro s (rfl | rfl | rfl | rfl) <;> decide
theorem look_false {w : World} {b n : Nat} {f : ByteArray → Option Int} (h : MapF Value.string (Value.int .i64) okS w b f n) (k : ByteArray) (hk : okS k) : (Instr.lookup 164 (.map (some b)) (.string k) false).run Tryz.prog w = .ok (.int .i64 ((f k).getD 0)) w := by
 have hq := h.lookup str_key Tryz.underlying164 (zero3 w) hk false
 have e : ((f k).map (Value.int IntKind.i64)).getD (.int .i64 0) = .int .i64 ((f k).getD 0) := by cases f k <;> rfl
 simpa only [Bool.false_eq_true, if_false, e] using hq
theorem idx0 (a : Ad) (W : World) : (Instr.index 199 (.agg #[.slice a.A0 1 a.c0, .slice a.A1 2 a.c1, .slice a.A2 1 a.c2]) (.int .i64 0)).run Tryz.prog W = .ok (.slice a.A0 1 a.c0) W := by rfl
theorem idx1 (a : Ad) (W : World) : (Instr.index 199 (.agg #[.slice a.A0 1 a.c0, .slice a.A1 2 a.c1, .slice a.A2 1 a.c2]) (.int .i64 1)).run Tryz.prog W = .ok (.slice a.A1 2 a.c1) W := by rfl
theorem idx2 (a : Ad) (W : World) : (Instr.index 199 (.agg #[.slice a.A0 1 a.c0, .slice a.A1 2 a.c1, .slice a.A2 1 a.c2]) (.int .i64 2)).run Tryz.prog W = .ok (.slice a.A2 1 a.c2) W := by rfl
def doneN (k : Nat) : Nat := if k = 0 then 0 else if k = 1 then 1 else if k = 2 then 3 else 4
theorem room_calls (a : Ad) (F : Nat → Prop) (w : World) (bi bm : Nat) (v : Value) (q : Nat) (h : a.g.In w) (hI : Ix F w bi bm [] v q) : Calls Tryz.prog 63 #[.agg a.v, .pointer (some ⟨bi, 0, none⟩)] w fun e w' => e = .returned (.bool true) ∧ Below w.heap.size w w' := by
 obtain ⟨w2, hw2⟩ : ∃ q, q = (w.alloc (.cells a.v 142)).alloc (.map #[] 0) := ⟨_, rfl⟩
 have hz1 : (w.alloc (.cells a.v 142)).heap.size = w.heap.size + 1 := Array.size_push _
 have hb2 : Below w.heap.size w w2 := by rw [hw2]; exact below_alloc (below_alloc (Below.refl _ _) _) _
 have ht2 : w2.heap[w.heap.size]? = some (.cells a.v 142 (0, 0)) := by rw [hw2]; exact (Below.heap_alloc _ _ _ (by rw [hz1]; omega)).trans (heap_alloc_new w _)
 have hM2 : MapF Value.string (Value.int .i64) okS w2 (w.heap.size + 1) (fun _ => none) 0 := by rw [hw2, ← hz1]; exact MapF.made _
 have x0 := cellOf ht2 0 (.slice a.A0 1 a.c0) rfl
 have x1 := cellOf ht2 1 (.slice a.A1 2 a.c1) rfl
 have x2 := cellOf ht2 2 (.slice a.A2 1 a.c2) rfl
 have HW2 := jA hw2
 have HZ1 := jA hz1
 have HB2 := jA hb2
 have HM2 := jA hM2
 have HG := jA h
 have HI := jA hI
 have hmm := @run_makeMap Tryz.prog
 obtain ⟨av, hav⟩ : ∃ q, q = a.v := ⟨_, rfl⟩
 have HAV := jA hav
 rw [← hav] at HW2 HZ1 ⊢
 clear hav hw2 hz1 hb2 ht2 hM2 h hI
 go_enter Tryz.func63, Tryz.ntmps63
 go_upto_region 2 with fail
 (try rw [HZ1.out])
 rw [← HW2.out]
 clear hmm
 go_wp2
 go_loopw [20] (fun u wr => ∃ (k : Nat) (f : ByteArray → Option Int) (n : Nat), k ≤ 3 ∧ u = .int .i64 k ∧ n ≤ doneN k ∧ Aside0 (MapF Value.string (Value.int .i64) okS wr (w.heap.size + 1) f n ∧ Below w.heap.size w wr)) (fun u _ => 3 - (intOf u).toNat)
 case atStart => exact ⟨0, _, 0, by omega, rfl, Nat.zero_le _, ⟨HM2.out, HB2.out⟩⟩
 case round =>
  obtain ⟨k, f, n, hk, rfl, hn, HR⟩ := hrel
  rcases (by omega : k = 0 ∨ k = 1 ∨ k = 2 ∨ k = 3) with rfl | rfl | rfl | rfl
  ·have HC := jA (HG.out.h0)
   have hok : ∀ s ∈ ([bOpen] : List ByteArray), okS s := by intro s hs; exact ok4 s (by simp at hs; first | (rcases hs with rfl | rfl <;> simp) | (rcases hs with rfl; simp))
   have HOK := jA hok
   clear hok
   have hidx := idx0 a
   go_wp2
   clear hidx
   go_loopw [25] (fun u wj => ∃ (j : Nat) (f : ByteArray → Option Int) (n : Nat), j ≤ 1 ∧ u = .int .i64 j ∧ n ≤ doneN 0 + j ∧ Aside0 (MapF Value.string (Value.int .i64) okS wj (w.heap.size + 1) f n ∧ Below w.heap.size w wj)) (fun u _ => 1 - (intOf u).toNat)
   case atStart => exact ⟨0, f, n, by omega, rfl, hn, HR⟩
   case round =>
    obtain ⟨j, f2, n2, hj, rfl, hn2, HJ⟩ := hrel
    by_cases hlt : j < 1
    ·obtain ⟨ad, e0, hx⟩ := Kd.at_string (xs := [bOpen]) (Kd.C_below HC.out HJ.out.2) (j : Int) (by omega) (by show (j : Int) < 1; omega)
     have e0' : a.A0 = some ad := e0
     obtain ⟨x, hxx⟩ : ∃ x, x = rdOf ByteArray.empty [bOpen] (j : Int) := ⟨_, rfl⟩
     have hxo : okS x := by
      refine HOK.out x ?_
      rw [hxx]
      have : ([bOpen] : List ByteArray).getD j ByteArray.empty ∈ ([bOpen] : List ByteArray) := by
       rw [List.getD_eq_getElem?_getD, List.getElem?_eq_getElem (by show j < 1; omega)]
       exact List.getElem_mem _
      simpa [rdOf] using this
     rw [← hxx] at hx
     simp only [Int.toNat_natCast] at hx
     have HX := jA hxo
     have hlk := look_false HJ.out.1 x hxo
     have HF := jA (find_calls F wr bi bm [] v q (HI.out.below HJ.out.2) x hxo)
     obtain ⟨y, hy⟩ : ∃ y, y = (f2 x).getD 0 := ⟨_, rfl⟩
     rw [← hy] at hlk
     obtain ⟨w6, hrun, hM6, hg6⟩ := HJ.out.1.update str_key Tryz.underlying164 hxo (wrap64 (y + 1))
     have hrun' : (Instr.mapUpdate 164 (.map (some (w.heap.size + 1))) (.string x) (.int .i64 (wrap64 (y + 1)))).run Tryz.prog wr = .ok () w6 := hrun
     have HM6 := jA hM6
     have HB6 := jA (HJ.out.2.grown hg6 HJ.out.2.size (fun k hk => by cases hk; omega))
     have c0' : (j : Int) < 1 := by omega
     rw [e0'] at *
     clear hxx hxo hM6 hg6 hrun hy e0 e0'
     go_wp2_with (first | (go_at_call 89; (refine HF.out.mono ?_); rintro e w5 ⟨rfl, rfl⟩; (try simp only [show ixF [] x = none from rfl, Option.getD_none, Option.isSome_none])))
     go_roundw
     case rel => exact ⟨j + 1, _, _, by omega, by go_num, by split <;> omega, ⟨HM6.out, HB6.out⟩⟩
     case measure => simp [intOf]; omega
    ·have hjj : j = 1 := by omega
     subst hjj
     go_wp2
     go_roundw
     case rel => exact ⟨1, f2, n2, by omega, by first | rfl | go_num, (show n2 ≤ 1 from hn2), HJ⟩
     case measure => simp [intOf]
  ·have HC := jA (HG.out.h1)
   have hok : ∀ s ∈ ([bAnn, bBob] : List ByteArray), okS s := by intro s hs; exact ok4 s (by simp at hs; first | (rcases hs with rfl | rfl <;> simp) | (rcases hs with rfl; simp))
   have HOK := jA hok
   clear hok
   have hidx := idx1 a
   go_wp2
   clear hidx
   go_loopw [25] (fun u wj => ∃ (j : Nat) (f : ByteArray → Option Int) (n : Nat), j ≤ 2 ∧ u = .int .i64 j ∧ n ≤ doneN 1 + j ∧ Aside0 (MapF Value.string (Value.int .i64) okS wj (w.heap.size + 1) f n ∧ Below w.heap.size w wj)) (fun u _ => 2 - (intOf u).toNat)
   case atStart => exact ⟨0, f, n, by omega, rfl, hn, HR⟩
   case round =>
    obtain ⟨j, f2, n2, hj, rfl, hn2, HJ⟩ := hrel
    by_cases hlt : j < 2
    ·obtain ⟨ad, e0, hx⟩ := Kd.at_string (xs := [bAnn, bBob]) (Kd.C_below HC.out HJ.out.2) (j : Int) (by omega) (by show (j : Int) < 2; omega)
     have e0' : a.A1 = some ad := e0
     obtain ⟨x, hxx⟩ : ∃ x, x = rdOf ByteArray.empty [bAnn, bBob] (j : Int) := ⟨_, rfl⟩
     have hxo : okS x := by
      refine HOK.out x ?_
      rw [hxx]
      have : ([bAnn, bBob] : List ByteArray).getD j ByteArray.empty ∈ ([bAnn, bBob] : List ByteArray) := by
       rw [List.getD_eq_getElem?_getD, List.getElem?_eq_getElem (by show j < 2; omega)]
       exact List.getElem_mem _
      simpa [rdOf] using this
     rw [← hxx] at hx
     simp only [Int.toNat_natCast] at hx
     have HX := jA hxo
     have hlk := look_false HJ.out.1 x hxo
     have HF := jA (find_calls F wr bi bm [] v q (HI.out.below HJ.out.2) x hxo)
     obtain ⟨y, hy⟩ : ∃ y, y = (f2 x).getD 0 := ⟨_, rfl⟩
     rw [← hy] at hlk
     obtain ⟨w6, hrun, hM6, hg6⟩ := HJ.out.1.update str_key Tryz.underlying164 hxo (wrap64 (y + 1))
     have hrun' : (Instr.mapUpdate 164 (.map (some (w.heap.size + 1))) (.string x) (.int .i64 (wrap64 (y + 1)))).run Tryz.prog wr = .ok () w6 := hrun
     have HM6 := jA hM6
     have HB6 := jA (HJ.out.2.grown hg6 HJ.out.2.size (fun k hk => by cases hk; omega))
     have c0' : (j : Int) < 2 := by omega
     rw [e0'] at *
     clear hxx hxo hM6 hg6 hrun hy e0 e0'
     go_wp2_with (first | (go_at_call 89; (refine HF.out.mono ?_); rintro e w5 ⟨rfl, rfl⟩; (try simp only [show ixF [] x = none from rfl, Option.getD_none, Option.isSome_none])))
     go_roundw
     case rel => exact ⟨j + 1, _, _, by omega, by go_num, by split <;> omega, ⟨HM6.out, HB6.out⟩⟩
     case measure => simp [intOf]; omega
    ·have hjj : j = 2 := by omega
     subst hjj
     go_wp2
     go_roundw
     case rel => exact ⟨2, f2, n2, by omega, by first | rfl | go_num, (show n2 ≤ 3 from hn2), HJ⟩
     case measure => simp [intOf]
  ·have HC := jA (HG.out.h2)
   have hok : ∀ s ∈ ([bDoor] : List ByteArray), okS s := by intro s hs; exact ok4 s (by simp at hs; first | (rcases hs with rfl | rfl <;> simp) | (rcases hs with rfl; simp))
   have HOK := jA hok
   clear hok
   have hidx := idx2 a
   go_wp2
   clear hidx
   go_loopw [25] (fun u wj => ∃ (j : Nat) (f : ByteArray → Option Int) (n : Nat), j ≤ 1 ∧ u = .int .i64 j ∧ n ≤ doneN 2 + j ∧ Aside0 (MapF Value.string (Value.int .i64) okS wj (w.heap.size + 1) f n ∧ Below w.heap.size w wj)) (fun u _ => 1 - (intOf u).toNat)
   case atStart => exact ⟨0, f, n, by omega, rfl, hn, HR⟩
   case round =>
    obtain ⟨j, f2, n2, hj, rfl, hn2, HJ⟩ := hrel
    by_cases hlt : j < 1
    ·obtain ⟨ad, e0, hx⟩ := Kd.at_string (xs := [bDoor]) (Kd.C_below HC.out HJ.out.2) (j : Int) (by omega) (by show (j : Int) < 1; omega)
     have e0' : a.A2 = some ad := e0
     obtain ⟨x, hxx⟩ : ∃ x, x = rdOf ByteArray.empty [bDoor] (j : Int) := ⟨_, rfl⟩
     have hxo : okS x := by
      refine HOK.out x ?_
      rw [hxx]
      have : ([bDoor] : List ByteArray).getD j ByteArray.empty ∈ ([bDoor] : List ByteArray) := by
       rw [List.getD_eq_getElem?_getD, List.getElem?_eq_getElem (by show j < 1; omega)]
       exact List.getElem_mem _
      simpa [rdOf] using this
     rw [← hxx] at hx
     simp only [Int.toNat_natCast] at hx
     have HX := jA hxo
     have hlk := look_false HJ.out.1 x hxo
     have HF := jA (find_calls F wr bi bm [] v q (HI.out.below HJ.out.2) x hxo)
     obtain ⟨y, hy⟩ : ∃ y, y = (f2 x).getD 0 := ⟨_, rfl⟩
     rw [← hy] at hlk
     obtain ⟨w6, hrun, hM6, hg6⟩ := HJ.out.1.update str_key Tryz.underlying164 hxo (wrap64 (y + 1))
     have hrun' : (Instr.mapUpdate 164 (.map (some (w.heap.size + 1))) (.string x) (.int .i64 (wrap64 (y + 1)))).run Tryz.prog wr = .ok () w6 := hrun
     have HM6 := jA hM6
     have HB6 := jA (HJ.out.2.grown hg6 HJ.out.2.size (fun k hk => by cases hk; omega))
     have c0' : (j : Int) < 1 := by omega
     rw [e0'] at *
     clear hxx hxo hM6 hg6 hrun hy e0 e0'
     go_wp2_with (first | (go_at_call 89; (refine HF.out.mono ?_); rintro e w5 ⟨rfl, rfl⟩; (try simp only [show ixF [] x = none from rfl, Option.getD_none, Option.isSome_none])))
     go_roundw
     case rel => exact ⟨j + 1, _, _, by omega, by go_num, by split <;> omega, ⟨HM6.out, HB6.out⟩⟩
     case measure => simp [intOf]; omega
    ·have hjj : j = 1 := by omega
     subst hjj
     go_wp2
     go_roundw
     case rel => exact ⟨3, f2, n2, by omega, by first | rfl | go_num, (show n2 ≤ 4 from hn2), HJ⟩
     case measure => simp [intOf]
  ·clear x0 x1 x2
   have hn4 : n ≤ 4 := hn
   have hlen := HR.out.1.len Tryz.underlying164 3
   have hL := HI.out.below HR.out.2
   have HL := jA (lenix_calls F wr bi bm [] v q hL)
   have hc1 : ¬ ((1048576 : Int) < (n : Int)) := by omega
   have hc2 : (n : Int) ≤ 1048576 := by omega
   have hc3 : n ≤ 1048576 := by omega
   clear hL
   go_wp2_with (first | (go_at_call 90; (refine HL.out.mono ?_); rintro e w5 ⟨rfl, rfl⟩))
   go_ret
   exact ⟨rfl, HR.out.2⟩
end Go.Proofs.YtdgkppldopiaoaaGreat.RPage
/- page.Lay's put, walked for the names of one("ann"). -/
namespace Go.Proofs.YtdgkppldopiaoaaGreat.RPput
open Go.RowKit YtdgkppldopiaoaaGreatW.PrintWords YtdgkppldopiaoaaGreatW.PrintLast YtdgkppldopiaoaaGreatW.PrintMore BMap BRow GDiffer GValid MLines MPol MPut RMem RCells REpoch RMach RSeek RCput RRun RIndex ROne RPage Go.Maps
open PG
set_option maxHeartbeats 2000000
set_option maxRecDepth 100000
section
variable {P : Program} {ops : Array Oper} {Q : Exit → Act → World → Prop}
theorem goesV_ {oi : Oper} {N : Option Tmp} {a : Act} {w : World} {K : Act → World → Prop} {f : FuncId} {fn : Func} {ars : Array Operand} {ts : Array TypeId} (n : Tmp) (first cap : Array Value) (hf : P.funcs[f]? = some fn) (hname : (fn.name == "runtime.NumGoroutine") = false) (hb : fn.body.isSome = true) (args : Array Value)
  (hw : Region.wanted oi (yielded ops a.tmps) = true) (hN : oi.dst = N) (hop : oi.op = .call { callee := .value (.tmp n), args := ars, argTypes := ts }) (hv : a.eval (.tmp n) = .func (.func f) first cap) (hargs : first ++ ars.map a.eval ++ cap = args)
  (h : Calls P f args w fun e w' => ∃ v, e = .returned v ∧ K (a.put N v) w') : if Region.wanted oi (yielded ops a.tmps) = true then Oper.wp P oi a w K Q else K (a.put N undef) w := by
 refine call_ f args hw hN ?_ h
 have he := enters_ hf hname hb args w
 unfold execOp
 simp [hop, resolve, Deferred.ofValue, invoke, hv, hargs, he]
end
theorem num29 (w : World) (i r : Int) (h : wrap64 (i + 1) = r) : Calls Tryz.prog 69 #[.int .i64 i] w fun e w' => e = .returned (.int .i64 r) ∧ w' = w := by
 rw [← h]
 clear h
 go_enter Tryz.func69, Tryz.ntmps69
 go_wp2
 go_ret
 exact ⟨rfl, rfl⟩
theorem num30 (a : Ad) (w : World) (b : Nat) (h : w.heap[b]? = some (.cells a.v 142 (0, 0))) (hg : a.g.In w) (i : Nat) (hi : i < 2) (r : Int) (hr : rd [1, 2] (i : Int) = r) : Calls Tryz.prog 70 #[.int .i64 i, .pointer (some ⟨b, 0, none⟩)] w fun e w' => e = .returned (.int .i64 r) ∧ w' = w := by
 have c3 := cellOf h 3 (.slice a.A3 2 a.c3) rfl
 obtain ⟨ad, e0, hx⟩ := Kd.at_int (xs := [1, 2]) hg.h3 (i : Int) (by omega) (by show (i : Int) < 2; omega)
 have e0' : a.A3 = some ad := e0
 rw [hr] at hx
 simp only [Int.toNat_natCast] at hx
 have c0' : (i : Int) < 2 := by omega
 rw [e0'] at c3
 clear h hg e0 e0'
 go_enter Tryz.func70, Tryz.ntmps70
 go_wp2
 go_ret
 exact ⟨rfl, rfl⟩
theorem num31 (a : Ad) (w : World) (b : Nat) (h : w.heap[b]? = some (.cells a.v 142 (0, 0))) (hg : a.g.In w) (i : Nat) (hi : i < 1) (r : Int) (hr : rd [1] (i : Int) = r) : Calls Tryz.prog 71 #[.int .i64 i, .pointer (some ⟨b, 0, none⟩)] w fun e w' => e = .returned (.int .i64 r) ∧ w' = w := by
 have c3 := cellOf h 4 (.slice a.A4 1 a.c4) rfl
 obtain ⟨ad, e0, hx⟩ := Kd.at_int (xs := [1]) hg.h4 (i : Int) (by omega) (by show (i : Int) < 1; omega)
 have e0' : a.A4 = some ad := e0
 rw [hr] at hx
 simp only [Int.toNat_natCast] at hx
 have c0' : (i : Int) < 1 := by omega
 rw [e0'] at c3
 clear h hg e0 e0'
 go_enter Tryz.func71, Tryz.ntmps71
 go_wp2
 go_ret
 exact ⟨rfl, rfl⟩
structure Pst (F : Nat → Prop) (w : World) (bi bm b5 b8 b9 bp : Nat) (ws : List Int) (L : List ByteArray) : Prop where
 x : w.heap[b5]? = some (.cells #[.pointer (some ⟨bi, 0, none⟩)] 135 (0, 0))
 t : w.heap[b8]? = some (.cells #[.int .i64 8] 3 (0, 0))
 p : w.heap[b9]? = some (.cells #[.slice (some ⟨bp, 0, none⟩) 20 22] 22 (0, 0))
 pg : w.heap[bp]? = some (.cells (wordsV ws) 3 (0, 0))
 ix : IxE F w bi bm L
 f5 : F b5
 f8 : F b8
 f9 : F b9
 fp : F bp
 n5 : b5 ≠ bp
 n8 : b8 ≠ bp
 n9 : b9 ≠ bp
 len : ws.length = 22
theorem kb {F : Nat → Prop} {w w1 : World} {k : Nat} {cs : Array Value} {t : TypeId} (hk : Keep F w w1) (hF : F k) (h : w.heap[k]? = some (.cells cs t (0, 0))) : w1.heap[k]? = some (.cells cs t (0, 0)) := (hk.at_ _ (Array.getElem?_eq_some_iff.1 h).1 hF).trans h
theorem _root_.Go.Proofs.YtdgkppldopiaoaaGreat.RIndex.Ix.far {F : Nat → Prop} {w : World} {bi bm : Nat} {L : List ByteArray} {v : Value} {n : Nat} (h : Ix F w bi bm L v n) {p : Addr} (hp : F p.block) (u : Value) : Ix F (w.setCell p u) bi bm L v n :=
 { h with var := (Below.heap_setCell _ _ _ _ (fun e => h.fi (by rw [e]; exact hp))).trans h.var, map := h.map.setCell (fun e => h.fm (by rw [← e]; exact hp)) u, row := Kd.R_far h.row (fun k hk e => hk.2.2 (by rw [e]; exact hp)) u, lt := fun k hk => by simpa [World.setCell] using h.lt k hk }
theorem Pst.next {F : Nat → Prop} {w w1 : World} {bi bm b5 b8 b9 bp : Nat} {ws : List Int} {L L' : List ByteArray} (h : Pst F w bi bm b5 b8 b9 bp ws L) (hk : Keep F w w1) (hi : IxE F w1 bi bm L') : Pst F w1 bi bm b5 b8 b9 bp ws L' :=
 { h with x := kb hk h.f5 h.x, t := kb hk h.f8 h.t, p := kb hk h.f9 h.p, pg := kb hk h.fp h.pg, ix := hi }
theorem Pst.drew {F : Nat → Prop} {w : World} {bi bm b5 b8 b9 bp : Nat} {ws : List Int} {L : List ByteArray} (h : Pst F w bi bm b5 b8 b9 bp ws L) : Pst F w.drew bi bm b5 b8 b9 bp ws L := by
 obtain ⟨v, n, hI⟩ := h.ix
 exact { h with ix := ⟨v, n, hI.below (below_drew (Below.refl _ _))⟩ }
theorem Pst.word {F : Nat → Prop} {w : World} {bi bm b5 b8 b9 bp : Nat} {ws : List Int} {L : List ByteArray} (h : Pst F w bi bm b5 b8 b9 bp ws L) (k : Nat) (v : Int) : Pst F (w.setCell ⟨bp, k, none⟩ (.int .i64 v)) bi bm b5 b8 b9 bp (ws.set k v) L := by
 obtain ⟨u, n, hI⟩ := h.ix
 exact { h with
  x := (Below.heap_setCell _ _ _ _ h.n5).trans h.x
  t := (Below.heap_setCell _ _ _ _ h.n8).trans h.t
  p := (Below.heap_setCell _ _ _ _ h.n9).trans h.p
  pg := by
   have := blk_set h.pg k (.int .i64 v)
   simpa [wordsV, List.map_set] using this
  ix := ⟨u, n, hI.far h.fp _⟩
  len := by rw [List.length_set]; exact h.len }
theorem Pst.cellw {F : Nat → Prop} {w : World} {bi bm b5 b8 b9 bp : Nat} {ws : List Int} {L : List ByteArray} (h : Pst F w bi bm b5 b8 b9 bp ws L) (k : Nat) (x : Int) (hx : ws[k]? = some x) : w.cell? ⟨bp, k, none⟩ = some (.int .i64 x) := by
 rw [cell_of_row _ _ _ _ _ _ h.pg]; simp [wordsV, hx]
theorem of_pst {F : Nat → Prop} {w : World} {bi bm b5 b8 b9 bp : Nat} {ws : List Int} {L : List ByteArray} (h : Pst F w bi bm b5 b8 b9 bp ws L) (hL : L.length ≤ 1000) (k : ByteArray) (hk : okS k) (hi : ixF L k = none) (L' : List ByteArray) (hL' : L ++ [k] = L') (i : Int) (hii : (L.length : Int) + 1 = i) :
  Calls Tryz.prog 50 #[.pointer (some ⟨bi, 0, none⟩), .string k] w fun e w' => e = .returned (.int .i64 i) ∧ Pst F w' bi bm b5 b8 b9 bp ws L' ∧ Keep F w w' := by
 obtain ⟨v, n, hI⟩ := h.ix
 refine (of_new F w bi bm L v n hI hL k hk hi).mono ?_
 rintro e w' ⟨rfl, h1, h2⟩
 rw [hL'] at h1
 exact ⟨by rw [hii], h.next h2 h1, h2⟩
theorem hash_at (k : Int) (r : Int) (hr : hashI k 8 = r) (w : World) : Calls Tryz.prog 68 #[.int .i64 k, .int .i64 8] w fun e w' => e = .returned (.int .i64 r) ∧ Still w w' := by
 have := hash_go k 8 (by decide) w
 rw [hr] at this
 exact this
theorem Pst.still {F : Nat → Prop} {w w1 : World} {bi bm b5 b8 b9 bp : Nat} {ws : List Int} {L : List ByteArray} (h : Pst F w bi bm b5 b8 b9 bp ws L) (hh : Still w w1) : Pst F w1 bi bm b5 b8 b9 bp ws L := by
 obtain ⟨v, n, hI⟩ := h.ix
 exact h.next ⟨by rw [hh.heap]; exact Nat.le_refl _, fun k _ _ => by rw [hh.heap], hh.ext⟩ ⟨v, n, hI.below ⟨hh.ext.1, hh.ext.2.1, hh.ext.2.2, by rw [hh.heap]; exact Nat.le_refl _, fun k _ => by rw [hh.heap]⟩⟩
def FP (F : Nat → Prop) (bp : Nat) : Nat → Prop := fun k => F k ∧ k ≠ bp
theorem put29 (a : Ad) (F : Nat → Prop) (w : World) (bi bm b4 b5 b8 b9 bp : Nat) (h : Pst F w bi bm b5 b8 b9 bp [5, 8, 2, 1, 0, 0, 0, 0, 0, 0, 0, 0, 0, 0, 0, 0, 0, 0, 0, 0, 0, 0] []) (hg : ∀ W, Keep (FP F bp) w W → a.g.In W) :
  Calls Tryz.prog 67 #[.slice a.A0 1 a.c0, .int .i64 3, .func (.func 69) #[] #[], .pointer (some ⟨b5, 0, none⟩), .pointer (some ⟨b8, 0, none⟩), .pointer (some ⟨b9, 0, none⟩)] w fun e w' => e = .returned (.tuple #[]) ∧ Pst F w' bi bm b5 b8 b9 bp [5, 8, 2, 1, 0, 0, 7, 1, 0, 0, 0, 0, 0, 0, 0, 0, 0, 0, 0, 0, 0, 0] [bOpen] ∧ Keep (FP F bp) w w' := by
 have HP0 := jA h
 have HG := jA hg
 clear h hg
 go_enter Tryz.func67, Tryz.ntmps67
 go_wp2
 go_loopw [15] (fun u wr => (u = .int .i64 0 ∧ Aside0 (Pst F wr bi bm b5 b8 b9 bp [5, 8, 2, 1, 0, 0, 0, 0, 0, 0, 0, 0, 0, 0, 0, 0, 0, 0, 0, 0, 0, 0] [] ∧ Keep (FP F bp) w wr)) ∨ (u = .int .i64 1 ∧ Aside0 (Pst F wr bi bm b5 b8 b9 bp [5, 8, 2, 1, 0, 0, 7, 1, 0, 0, 0, 0, 0, 0, 0, 0, 0, 0, 0, 0, 0, 0] [bOpen] ∧ Keep (FP F bp) w wr))) (fun u _ => 1 - (intOf u).toNat)
 case atStart => exact .inl ⟨rfl, HP0.out, Keep.refl _ _⟩
 case round =>
  rcases hrel with ⟨rfl, HR⟩ | ⟨rfl, HR⟩
  ·obtain ⟨ad, e0, hx⟩ := Kd.at_string (xs := [bOpen]) (HG.out _ HR.out.2).h0 0 (by decide) (by show (0 : Int) < ((1 : Nat) : Int); decide)
   have e0' : a.A0 = some ad := e0
   have hx' : wr.cell? ad = some (.string bOpen) := by
    have ea : ad.add 0 = ad := by simp [Addr.add]
    rw [← ea]; exact hx
   have x5 := cellOf HR.out.1.x 0 (.pointer (some ⟨bi, 0, none⟩)) rfl
   have HQ := jA (of_pst HR.out.1 (by decide) bOpen (ok4 _ (by simp)) (by decide) [bOpen] rfl 1 (by decide))
   have HH := jA (fun W => hash_at 7 1 (by decide +kernel) W)
   have o1 : bits BinOp.or IntKind.i64 4 3 = 7 := by decide
   rw [e0'] at *
   clear hx e0 e0'
   go_wp2_with (first | (go_at_call 50; (refine HQ.out.mono ?_); rintro e w3 ⟨rfl, hP3, hK3⟩; have t8 := cellOf hP3.t 0 (.int .i64 8) rfl; have HP3 := jA hP3; have HK3 := jA (HR.out.2.trans (hK3.less (fun k hk => hk.1))); clear hP3 hK3) | (go_at_call 68; (refine (HH.out _).mono ?_); rintro e w5 ⟨rfl, hS5⟩; have hP5 := HP3.out.still hS5; have HK5 := jA (HK3.out.trans (Keep.less (F := fun _ => True) ⟨by rw [hS5.heap]; exact Nat.le_refl _, fun k _ _ => by rw [hS5.heap], hS5.ext⟩ (fun _ _ => trivial))); have p9 := cellOf hP5.p 0 (.slice (some ⟨bp, 0, none⟩) 20 22) rfl; have q9 := hP5.cellw 6 0 rfl; have HP5 := jA hP5; clear hP5 hS5 t8 hx' x5))
   go_loopw [12] (fun u wi => u = .int .i64 1 ∧ wi = w5) (fun _ _ => 0)
   case atStart => exact ⟨rfl, rfl⟩
   case round =>
    obtain ⟨rfl, hwi⟩ := hrel
    rw [hwi]
    clear hwi
    go_upto_region 7 with fail
    have p9' : w5.drew.cell? ⟨b9, 0, none⟩ = some (.slice (some ⟨bp, 0, none⟩) 20 22) := p9
    have v1 : IntKind.i64.wrap 2 = 2 := by decide
    have v2 : IntKind.i64.wrap 6 = 6 := by decide
    have v3 : IntKind.i64.wrap 7 = 7 := by decide
    obtain ⟨w6, hw6⟩ : ∃ q, q = w5.drew := ⟨_, rfl⟩
    have hP6 := HP5.out.drew
    have hK6 := HK5.out.below (below_drew (Below.refl _ _))
    rw [← hw6] at hP6 hK6 p9'
    have HP6 := jA hP6
    have HK6 := jA hK6
    have HN := jA (num29 w6 0 1 (by decide +kernel))
    have HW6 := jA hw6
    clear hP6 hK6 hw6
    refine start_ (n := 17) (S := fun w' => w'.cell? ⟨b9, 0, none⟩ = some (.slice (some ⟨bp, 0, none⟩) 20 22)) (ds := [16]) (Jb 17 0) (by kernel_rfl) rfl (by kernel_rfl) p9 (fun hHeld => ?_)
    rw [← HW6.out] at hHeld ⊢
    refine Jk 0 41 (Jb 17 1) rfl rfl hHeld (.inl ⟨by rfl, by rintro w' s0; go_simp; with_reducible rfl⟩) ?_
    refine Jp 1 42 (Jb 17 3) rfl rfl ?_
    refine Jp 2 43 (Jb 17 7) rfl rfl ?_
    refine Jp 3 44 (Jb 17 15) rfl rfl ?_
    refine Jk 4 45 (Jb 17 31) rfl rfl hHeld (.inl ⟨by rfl, by rintro w' s0; go_simp; with_reducible rfl⟩) ?_
    refine Jp 5 46 (Jb 17 63) rfl rfl ?_
    refine Jp 6 47 (Jb 17 127) rfl rfl ?_
    refine Jp 7 48 (Jb 17 255) rfl rfl ?_
    refine Jp 8 49 (Jb 17 511) rfl rfl ?_
    refine Jp 9 50 (Jb 17 1023) rfl rfl ?_
    refine Jp 10 51 (Jb 17 2047) rfl rfl ?_
    refine Jp 11 52 (Jb 17 4095) rfl rfl ?_
    refine one_ (i := 12) (N := some 53) (Jb 17 8191) rfl rfl (by kernel_rfl) (by decide) (fun K hK => ?_)
    refine goesV_ 51 #[] #[] Tryz.func69 (by kernel_rfl) rfl #[.int .i64 0] (by rfl) rfl rfl rfl (by first | rfl | (simp [Act.eval]; done) | (simp [Act.eval]; rfl)) ?_
    refine HN.out.mono ?_
    rintro e w7 ⟨rfl, hw7⟩
    rw [hw7]
    clear hw7
    refine ⟨_, rfl, ?_⟩
    refine hK.out _ _ p9' (fun hHeld => ?_)
    clear hK K
    refine norm_ (a' := ?_) ?_ ?_; rotate_left; (show Act.put _ (some 53) _ = _; simp only [Act.put, Jq, Jr, Js]; rfl)
    refine Jp 13 54 (Jb 17 16383) rfl rfl ?_
    refine one_ (i := 14) (N := none) (Jb 17 32767) rfl rfl (by kernel_rfl) (by decide) (fun K hK => ?_)
    refine GDiffer.step_skip (w' := w6.setCell ⟨bp, 6, none⟩ (.int .i64 7)) rfl rfl (by have hst := store_int (v := 7) (HP6.out.cellw 6 0 rfl) (MPut.frozen_of_row HP6.out.pg 6); simp [execOp, Act.eval, hst]) ?_
    refine hK.out _ _ (cellOf (HP6.out.word 6 7).p 0 _ rfl) (fun hHeld => ?_)
    clear hK K
    refine norm_ (a' := ?_) ?_ ?_; rotate_left; (show Act.put _ (none) _ = _; simp only [Act.put, Jq, Jr, Js]; rfl)
    refine Jp 15 55 (Jb 17 65535) rfl rfl ?_
    refine last_ (i := 16) (N := none) (Jb 17 131071) rfl rfl (by kernel_rfl) (by decide) (fun K hK => ?_)
    refine GDiffer.step_skip (w' := (w6.setCell ⟨bp, 6, none⟩ (.int .i64 7)).setCell ⟨bp, 7, none⟩ (.int .i64 1)) rfl rfl (by have hst := store_int (v := 1) ((HP6.out.word 6 7).cellw 7 0 rfl) (MPut.frozen_of_row (HP6.out.word 6 7).pg 7); simp [execOp, Act.eval, hst]) ?_
    refine hK.out _ _ ?_
    clear hK K
    refine done_ (by kernel_rfl) ?_
    have hP7 := (HP6.out.word 6 7).word 7 1
    have hK7 := ((HK6.out.setCell (p := ⟨bp, 6, none⟩) (fun e => e.2 rfl) (.int .i64 7)).setCell (p := ⟨bp, 7, none⟩) (fun e => e.2 rfl) (.int .i64 1))
    have HP7 := jA hP7
    have HK7 := jA hK7
    clear hP7 hK7
    go_wp2
    go_roundw
    case rel => exact .inr ⟨by first | rfl | go_num, HP7.out, HK7.out⟩
    case measure => simp [intOf]
  ·go_wp2
   go_end0
   exact ⟨rfl, HR.out.1, HR.out.2⟩
theorem put30 (a : Ad) (F : Nat → Prop) (w : World) (bi bm b4 b5 b8 b9 bp : Nat) (h : Pst F w bi bm b5 b8 b9 bp [5, 8, 2, 1, 0, 0, 7, 1, 0, 0, 0, 0, 0, 0, 0, 0, 0, 0, 0, 0, 0, 0] [bOpen]) (hg : ∀ W, Keep (FP F bp) w W → a.g.In W) (hB : w.heap[b4]? = some (.cells a.v 142 (0, 0))) (f4 : F b4) (n4 : b4 ≠ bp) :
  Calls Tryz.prog 67 #[.slice a.A1 2 a.c1, .int .i64 1, .func (.func 70) #[] #[.pointer (some ⟨b4, 0, none⟩)], .pointer (some ⟨b5, 0, none⟩), .pointer (some ⟨b8, 0, none⟩), .pointer (some ⟨b9, 0, none⟩)] w fun e w' => e = .returned (.tuple #[]) ∧ Pst F w' bi bm b5 b8 b9 bp [5, 8, 2, 1, 0, 0, 7, 1, 0, 0, 13, 2, 0, 0, 0, 0, 0, 0, 9, 1, 0, 0] [bOpen, bAnn, bBob] ∧ Keep (FP F bp) w w' := by
 have HP0 := jA h
 have HG := jA hg
 have HB4 := jA (And.intro hB (And.intro f4 n4))
 clear hB f4 n4
 clear h hg
 go_enter Tryz.func67, Tryz.ntmps67
 go_wp2
 go_loopw [15] (fun u wr => (u = .int .i64 0 ∧ Aside0 (Pst F wr bi bm b5 b8 b9 bp [5, 8, 2, 1, 0, 0, 7, 1, 0, 0, 0, 0, 0, 0, 0, 0, 0, 0, 0, 0, 0, 0] [bOpen] ∧ Keep (FP F bp) w wr)) ∨ (u = .int .i64 1 ∧ Aside0 (Pst F wr bi bm b5 b8 b9 bp [5, 8, 2, 1, 0, 0, 7, 1, 0, 0, 0, 0, 0, 0, 0, 0, 0, 0, 9, 1, 0, 0] [bOpen, bAnn] ∧ Keep (FP F bp) w wr)) ∨ (u = .int .i64 2 ∧ Aside0 (Pst F wr bi bm b5 b8 b9 bp [5, 8, 2, 1, 0, 0, 7, 1, 0, 0, 13, 2, 0, 0, 0, 0, 0, 0, 9, 1, 0, 0] [bOpen, bAnn, bBob] ∧ Keep (FP F bp) w wr))) (fun u _ => 2 - (intOf u).toNat)
 case atStart => exact .inl ⟨rfl, HP0.out, Keep.refl _ _⟩
 case round =>
  rcases hrel with ⟨rfl, HR⟩ | ⟨rfl, HR⟩ | ⟨rfl, HR⟩
  ·obtain ⟨ad, e0, hx⟩ := Kd.at_string (xs := [bAnn, bBob]) (HG.out _ HR.out.2).h1 0 (by decide) (by show (0 : Int) < ((2 : Nat) : Int); decide)
   have e0' : a.A1 = some ad := e0
   have hx' : wr.cell? ad = some (.string bAnn) := by
    have ea : ad.add 0 = ad := by simp [Addr.add]
    rw [← ea]; exact hx
   have x5 := cellOf HR.out.1.x 0 (.pointer (some ⟨bi, 0, none⟩)) rfl
   have HQ := jA (of_pst HR.out.1 (by decide) bAnn (ok4 _ (by simp)) (by decide) [bOpen, bAnn] rfl 2 (by decide))
   have HH := jA (fun W => hash_at 9 7 (by decide +kernel) W)
   have o1 : bits BinOp.or IntKind.i64 8 1 = 9 := by decide
   rw [e0'] at *
   clear hx e0 e0'
   go_wp2_with (first | (go_at_call 50; (refine HQ.out.mono ?_); rintro e w3 ⟨rfl, hP3, hK3⟩; have t8 := cellOf hP3.t 0 (.int .i64 8) rfl; have HP3 := jA hP3; have HK3 := jA (HR.out.2.trans (hK3.less (fun k hk => hk.1))); clear hP3 hK3) | (go_at_call 68; (refine (HH.out _).mono ?_); rintro e w5 ⟨rfl, hS5⟩; have hP5 := HP3.out.still hS5; have HK5 := jA (HK3.out.trans (Keep.less (F := fun _ => True) ⟨by rw [hS5.heap]; exact Nat.le_refl _, fun k _ _ => by rw [hS5.heap], hS5.ext⟩ (fun _ _ => trivial))); have p9 := cellOf hP5.p 0 (.slice (some ⟨bp, 0, none⟩) 20 22) rfl; have q9 := hP5.cellw 18 0 rfl; have HP5 := jA hP5; clear hP5 hS5 t8 hx' x5))
   go_loopw [12] (fun u wi => u = .int .i64 7 ∧ wi = w5) (fun _ _ => 0)
   case atStart => exact ⟨rfl, rfl⟩
   case round =>
    obtain ⟨rfl, hwi⟩ := hrel
    rw [hwi]
    clear hwi
    go_upto_region 7 with fail
    have p9' : w5.drew.cell? ⟨b9, 0, none⟩ = some (.slice (some ⟨bp, 0, none⟩) 20 22) := p9
    have v1 : IntKind.i64.wrap 14 = 14 := by decide
    have v2 : IntKind.i64.wrap 18 = 18 := by decide
    have v3 : IntKind.i64.wrap 19 = 19 := by decide
    obtain ⟨w6, hw6⟩ : ∃ q, q = w5.drew := ⟨_, rfl⟩
    have hP6 := HP5.out.drew
    have hK6 := HK5.out.below (below_drew (Below.refl _ _))
    rw [← hw6] at hP6 hK6 p9'
    have HP6 := jA hP6
    have HK6 := jA hK6
    have HN := jA (num30 a w6 b4 (kb HK6.out ⟨HB4.out.2.1, HB4.out.2.2⟩ HB4.out.1) (HG.out _ HK6.out) 0 (by decide) 1 (by rfl))
    have HW6 := jA hw6
    clear hP6 hK6 hw6
    refine start_ (n := 17) (S := fun w' => w'.cell? ⟨b9, 0, none⟩ = some (.slice (some ⟨bp, 0, none⟩) 20 22)) (ds := [16]) (Jb 17 0) (by kernel_rfl) rfl (by kernel_rfl) p9 (fun hHeld => ?_)
    rw [← HW6.out] at hHeld ⊢
    refine Jk 0 41 (Jb 17 1) rfl rfl hHeld (.inl ⟨by rfl, by rintro w' s0; go_simp; with_reducible rfl⟩) ?_
    refine Jp 1 42 (Jb 17 3) rfl rfl ?_
    refine Jp 2 43 (Jb 17 7) rfl rfl ?_
    refine Jp 3 44 (Jb 17 15) rfl rfl ?_
    refine Jk 4 45 (Jb 17 31) rfl rfl hHeld (.inl ⟨by rfl, by rintro w' s0; go_simp; with_reducible rfl⟩) ?_
    refine Jp 5 46 (Jb 17 63) rfl rfl ?_
    refine Jp 6 47 (Jb 17 127) rfl rfl ?_
    refine Jp 7 48 (Jb 17 255) rfl rfl ?_
    refine Jp 8 49 (Jb 17 511) rfl rfl ?_
    refine Jp 9 50 (Jb 17 1023) rfl rfl ?_
    refine Jp 10 51 (Jb 17 2047) rfl rfl ?_
    refine Jp 11 52 (Jb 17 4095) rfl rfl ?_
    refine one_ (i := 12) (N := some 53) (Jb 17 8191) rfl rfl (by kernel_rfl) (by decide) (fun K hK => ?_)
    refine goesV_ 51 #[] #[.pointer (some ⟨b4, 0, none⟩)] Tryz.func70 (by kernel_rfl) rfl #[.int .i64 0, .pointer (some ⟨b4, 0, none⟩)] (by rfl) rfl rfl rfl (by first | rfl | (simp [Act.eval]; done) | (simp [Act.eval]; rfl)) ?_
    refine HN.out.mono ?_
    rintro e w7 ⟨rfl, hw7⟩
    rw [hw7]
    clear hw7
    refine ⟨_, rfl, ?_⟩
    refine hK.out _ _ p9' (fun hHeld => ?_)
    clear hK K
    refine norm_ (a' := ?_) ?_ ?_; rotate_left; (show Act.put _ (some 53) _ = _; simp only [Act.put, Jq, Jr, Js]; rfl)
    refine Jp 13 54 (Jb 17 16383) rfl rfl ?_
    refine one_ (i := 14) (N := none) (Jb 17 32767) rfl rfl (by kernel_rfl) (by decide) (fun K hK => ?_)
    refine GDiffer.step_skip (w' := w6.setCell ⟨bp, 18, none⟩ (.int .i64 9)) rfl rfl (by have hst := store_int (v := 9) (HP6.out.cellw 18 0 rfl) (MPut.frozen_of_row HP6.out.pg 18); simp [execOp, Act.eval, hst]) ?_
    refine hK.out _ _ (cellOf (HP6.out.word 18 9).p 0 _ rfl) (fun hHeld => ?_)
    clear hK K
    refine norm_ (a' := ?_) ?_ ?_; rotate_left; (show Act.put _ (none) _ = _; simp only [Act.put, Jq, Jr, Js]; rfl)
    refine Jp 15 55 (Jb 17 65535) rfl rfl ?_
    refine last_ (i := 16) (N := none) (Jb 17 131071) rfl rfl (by kernel_rfl) (by decide) (fun K hK => ?_)
    refine GDiffer.step_skip (w' := (w6.setCell ⟨bp, 18, none⟩ (.int .i64 9)).setCell ⟨bp, 19, none⟩ (.int .i64 1)) rfl rfl (by have hst := store_int (v := 1) ((HP6.out.word 18 9).cellw 19 0 rfl) (MPut.frozen_of_row (HP6.out.word 18 9).pg 19); simp [execOp, Act.eval, hst]) ?_
    refine hK.out _ _ ?_
    clear hK K
    refine done_ (by kernel_rfl) ?_
    have hP7 := (HP6.out.word 18 9).word 19 1
    have hK7 := ((HK6.out.setCell (p := ⟨bp, 18, none⟩) (fun e => e.2 rfl) (.int .i64 9)).setCell (p := ⟨bp, 19, none⟩) (fun e => e.2 rfl) (.int .i64 1))
    have HP7 := jA hP7
    have HK7 := jA hK7
    clear hP7 hK7
    go_wp2
    go_roundw
    case rel => exact .inr (.inl ⟨by first | rfl | go_num, HP7.out, HK7.out⟩)
    case measure => simp [intOf]
  ·obtain ⟨ad, e0, hx⟩ := Kd.at_string (xs := [bAnn, bBob]) (HG.out _ HR.out.2).h1 1 (by decide) (by show (1 : Int) < ((2 : Nat) : Int); decide)
   have e0' : a.A1 = some ad := e0
   have hx' : wr.cell? ⟨ad.block, ad.off + 1, none⟩ = some (.string bBob) := by
    have ea : ad.add 1 = ⟨ad.block, ad.off + 1, none⟩ := by simp [Addr.add]
    rw [← ea]; exact hx
   have x5 := cellOf HR.out.1.x 0 (.pointer (some ⟨bi, 0, none⟩)) rfl
   have HQ := jA (of_pst HR.out.1 (by decide) bBob (ok4 _ (by simp)) (by decide) [bOpen, bAnn, bBob] rfl 3 (by decide))
   have HH := jA (fun W => hash_at 13 3 (by decide +kernel) W)
   have o1 : bits BinOp.or IntKind.i64 12 1 = 13 := by decide
   rw [e0'] at *
   clear hx e0 e0'
   go_wp2_with (first | (go_at_call 50; (refine HQ.out.mono ?_); rintro e w3 ⟨rfl, hP3, hK3⟩; have t8 := cellOf hP3.t 0 (.int .i64 8) rfl; have HP3 := jA hP3; have HK3 := jA (HR.out.2.trans (hK3.less (fun k hk => hk.1))); clear hP3 hK3) | (go_at_call 68; (refine (HH.out _).mono ?_); rintro e w5 ⟨rfl, hS5⟩; have hP5 := HP3.out.still hS5; have HK5 := jA (HK3.out.trans (Keep.less (F := fun _ => True) ⟨by rw [hS5.heap]; exact Nat.le_refl _, fun k _ _ => by rw [hS5.heap], hS5.ext⟩ (fun _ _ => trivial))); have p9 := cellOf hP5.p 0 (.slice (some ⟨bp, 0, none⟩) 20 22) rfl; have q9 := hP5.cellw 10 0 rfl; have HP5 := jA hP5; clear hP5 hS5 t8 hx' x5))
   go_loopw [12] (fun u wi => u = .int .i64 3 ∧ wi = w5) (fun _ _ => 0)
   case atStart => exact ⟨rfl, rfl⟩
   case round =>
    obtain ⟨rfl, hwi⟩ := hrel
    rw [hwi]
    clear hwi
    go_upto_region 7 with fail
    have p9' : w5.drew.cell? ⟨b9, 0, none⟩ = some (.slice (some ⟨bp, 0, none⟩) 20 22) := p9
    have v1 : IntKind.i64.wrap 6 = 6 := by decide
    have v2 : IntKind.i64.wrap 10 = 10 := by decide
    have v3 : IntKind.i64.wrap 11 = 11 := by decide
    obtain ⟨w6, hw6⟩ : ∃ q, q = w5.drew := ⟨_, rfl⟩
    have hP6 := HP5.out.drew
    have hK6 := HK5.out.below (below_drew (Below.refl _ _))
    rw [← hw6] at hP6 hK6 p9'
    have HP6 := jA hP6
    have HK6 := jA hK6
    have HN := jA (num30 a w6 b4 (kb HK6.out ⟨HB4.out.2.1, HB4.out.2.2⟩ HB4.out.1) (HG.out _ HK6.out) 1 (by decide) 2 (by rfl))
    have HW6 := jA hw6
    clear hP6 hK6 hw6
    refine start_ (n := 17) (S := fun w' => w'.cell? ⟨b9, 0, none⟩ = some (.slice (some ⟨bp, 0, none⟩) 20 22)) (ds := [16]) (Jb 17 0) (by kernel_rfl) rfl (by kernel_rfl) p9 (fun hHeld => ?_)
    rw [← HW6.out] at hHeld ⊢
    refine Jk 0 41 (Jb 17 1) rfl rfl hHeld (.inl ⟨by rfl, by rintro w' s0; go_simp; with_reducible rfl⟩) ?_
    refine Jp 1 42 (Jb 17 3) rfl rfl ?_
    refine Jp 2 43 (Jb 17 7) rfl rfl ?_
    refine Jp 3 44 (Jb 17 15) rfl rfl ?_
    refine Jk 4 45 (Jb 17 31) rfl rfl hHeld (.inl ⟨by rfl, by rintro w' s0; go_simp; with_reducible rfl⟩) ?_
    refine Jp 5 46 (Jb 17 63) rfl rfl ?_
    refine Jp 6 47 (Jb 17 127) rfl rfl ?_
    refine Jp 7 48 (Jb 17 255) rfl rfl ?_
    refine Jp 8 49 (Jb 17 511) rfl rfl ?_
    refine Jp 9 50 (Jb 17 1023) rfl rfl ?_
    refine Jp 10 51 (Jb 17 2047) rfl rfl ?_
    refine Jp 11 52 (Jb 17 4095) rfl rfl ?_
    refine one_ (i := 12) (N := some 53) (Jb 17 8191) rfl rfl (by kernel_rfl) (by decide) (fun K hK => ?_)
    refine goesV_ 51 #[] #[.pointer (some ⟨b4, 0, none⟩)] Tryz.func70 (by kernel_rfl) rfl #[.int .i64 1, .pointer (some ⟨b4, 0, none⟩)] (by rfl) rfl rfl rfl (by first | rfl | (simp [Act.eval]; done) | (simp [Act.eval]; rfl)) ?_
    refine HN.out.mono ?_
    rintro e w7 ⟨rfl, hw7⟩
    rw [hw7]
    clear hw7
    refine ⟨_, rfl, ?_⟩
    refine hK.out _ _ p9' (fun hHeld => ?_)
    clear hK K
    refine norm_ (a' := ?_) ?_ ?_; rotate_left; (show Act.put _ (some 53) _ = _; simp only [Act.put, Jq, Jr, Js]; rfl)
    refine Jp 13 54 (Jb 17 16383) rfl rfl ?_
    refine one_ (i := 14) (N := none) (Jb 17 32767) rfl rfl (by kernel_rfl) (by decide) (fun K hK => ?_)
    refine GDiffer.step_skip (w' := w6.setCell ⟨bp, 10, none⟩ (.int .i64 13)) rfl rfl (by have hst := store_int (v := 13) (HP6.out.cellw 10 0 rfl) (MPut.frozen_of_row HP6.out.pg 10); simp [execOp, Act.eval, hst]) ?_
    refine hK.out _ _ (cellOf (HP6.out.word 10 13).p 0 _ rfl) (fun hHeld => ?_)
    clear hK K
    refine norm_ (a' := ?_) ?_ ?_; rotate_left; (show Act.put _ (none) _ = _; simp only [Act.put, Jq, Jr, Js]; rfl)
    refine Jp 15 55 (Jb 17 65535) rfl rfl ?_
    refine last_ (i := 16) (N := none) (Jb 17 131071) rfl rfl (by kernel_rfl) (by decide) (fun K hK => ?_)
    refine GDiffer.step_skip (w' := (w6.setCell ⟨bp, 10, none⟩ (.int .i64 13)).setCell ⟨bp, 11, none⟩ (.int .i64 2)) rfl rfl (by have hst := store_int (v := 2) ((HP6.out.word 10 13).cellw 11 0 rfl) (MPut.frozen_of_row (HP6.out.word 10 13).pg 11); simp [execOp, Act.eval, hst]) ?_
    refine hK.out _ _ ?_
    clear hK K
    refine done_ (by kernel_rfl) ?_
    have hP7 := (HP6.out.word 10 13).word 11 2
    have hK7 := ((HK6.out.setCell (p := ⟨bp, 10, none⟩) (fun e => e.2 rfl) (.int .i64 13)).setCell (p := ⟨bp, 11, none⟩) (fun e => e.2 rfl) (.int .i64 2))
    have HP7 := jA hP7
    have HK7 := jA hK7
    clear hP7 hK7
    go_wp2
    go_roundw
    case rel => exact .inr (.inr ⟨by first | rfl | go_num, HP7.out, HK7.out⟩)
    case measure => simp [intOf]
  ·go_wp2
   go_end0
   exact ⟨rfl, HR.out.1, HR.out.2⟩
theorem put31 (a : Ad) (F : Nat → Prop) (w : World) (bi bm b4 b5 b8 b9 bp : Nat) (h : Pst F w bi bm b5 b8 b9 bp [5, 8, 2, 1, 0, 0, 7, 1, 0, 0, 13, 2, 0, 0, 0, 0, 0, 0, 9, 1, 0, 0] [bOpen, bAnn, bBob]) (hg : ∀ W, Keep (FP F bp) w W → a.g.In W) (hB : w.heap[b4]? = some (.cells a.v 142 (0, 0))) (f4 : F b4) (n4 : b4 ≠ bp) :
  Calls Tryz.prog 67 #[.slice a.A2 1 a.c2, .int .i64 2, .func (.func 71) #[] #[.pointer (some ⟨b4, 0, none⟩)], .pointer (some ⟨b5, 0, none⟩), .pointer (some ⟨b8, 0, none⟩), .pointer (some ⟨b9, 0, none⟩)] w fun e w' => e = .returned (.tuple #[]) ∧ Pst F w' bi bm b5 b8 b9 bp [5, 8, 2, 1, 0, 0, 7, 1, 0, 0, 13, 2, 0, 0, 0, 0, 18, 1, 9, 1, 0, 0] [bOpen, bAnn, bBob, bDoor] ∧ Keep (FP F bp) w w' := by
 have HP0 := jA h
 have HG := jA hg
 have HB4 := jA (And.intro hB (And.intro f4 n4))
 clear hB f4 n4
 clear h hg
 go_enter Tryz.func67, Tryz.ntmps67
 go_wp2
 go_loopw [15] (fun u wr => (u = .int .i64 0 ∧ Aside0 (Pst F wr bi bm b5 b8 b9 bp [5, 8, 2, 1, 0, 0, 7, 1, 0, 0, 13, 2, 0, 0, 0, 0, 0, 0, 9, 1, 0, 0] [bOpen, bAnn, bBob] ∧ Keep (FP F bp) w wr)) ∨ (u = .int .i64 1 ∧ Aside0 (Pst F wr bi bm b5 b8 b9 bp [5, 8, 2, 1, 0, 0, 7, 1, 0, 0, 13, 2, 0, 0, 0, 0, 18, 1, 9, 1, 0, 0] [bOpen, bAnn, bBob, bDoor] ∧ Keep (FP F bp) w wr))) (fun u _ => 1 - (intOf u).toNat)
 case atStart => exact .inl ⟨rfl, HP0.out, Keep.refl _ _⟩
 case round =>
  rcases hrel with ⟨rfl, HR⟩ | ⟨rfl, HR⟩
  ·obtain ⟨ad, e0, hx⟩ := Kd.at_string (xs := [bDoor]) (HG.out _ HR.out.2).h2 0 (by decide) (by show (0 : Int) < ((1 : Nat) : Int); decide)
   have e0' : a.A2 = some ad := e0
   have hx' : wr.cell? ad = some (.string bDoor) := by
    have ea : ad.add 0 = ad := by simp [Addr.add]
    rw [← ea]; exact hx
   have x5 := cellOf HR.out.1.x 0 (.pointer (some ⟨bi, 0, none⟩)) rfl
   have HQ := jA (of_pst HR.out.1 (by decide) bDoor (ok4 _ (by simp)) (by decide) [bOpen, bAnn, bBob, bDoor] rfl 4 (by decide))
   have HH := jA (fun W => hash_at 18 6 (by decide +kernel) W)
   have o1 : bits BinOp.or IntKind.i64 16 2 = 18 := by decide
   rw [e0'] at *
   clear hx e0 e0'
   go_wp2_with (first | (go_at_call 50; (refine HQ.out.mono ?_); rintro e w3 ⟨rfl, hP3, hK3⟩; have t8 := cellOf hP3.t 0 (.int .i64 8) rfl; have HP3 := jA hP3; have HK3 := jA (HR.out.2.trans (hK3.less (fun k hk => hk.1))); clear hP3 hK3) | (go_at_call 68; (refine (HH.out _).mono ?_); rintro e w5 ⟨rfl, hS5⟩; have hP5 := HP3.out.still hS5; have HK5 := jA (HK3.out.trans (Keep.less (F := fun _ => True) ⟨by rw [hS5.heap]; exact Nat.le_refl _, fun k _ _ => by rw [hS5.heap], hS5.ext⟩ (fun _ _ => trivial))); have p9 := cellOf hP5.p 0 (.slice (some ⟨bp, 0, none⟩) 20 22) rfl; have q9 := hP5.cellw 16 0 rfl; have HP5 := jA hP5; clear hP5 hS5 t8 hx' x5))
   go_loopw [12] (fun u wi => u = .int .i64 6 ∧ wi = w5) (fun _ _ => 0)
   case atStart => exact ⟨rfl, rfl⟩
   case round =>
    obtain ⟨rfl, hwi⟩ := hrel
    rw [hwi]
    clear hwi
    go_upto_region 7 with fail
    have p9' : w5.drew.cell? ⟨b9, 0, none⟩ = some (.slice (some ⟨bp, 0, none⟩) 20 22) := p9
    have v1 : IntKind.i64.wrap 12 = 12 := by decide
    have v2 : IntKind.i64.wrap 16 = 16 := by decide
    have v3 : IntKind.i64.wrap 17 = 17 := by decide
    obtain ⟨w6, hw6⟩ : ∃ q, q = w5.drew := ⟨_, rfl⟩
    have hP6 := HP5.out.drew
    have hK6 := HK5.out.below (below_drew (Below.refl _ _))
    rw [← hw6] at hP6 hK6 p9'
    have HP6 := jA hP6
    have HK6 := jA hK6
    have HN := jA (num31 a w6 b4 (kb HK6.out ⟨HB4.out.2.1, HB4.out.2.2⟩ HB4.out.1) (HG.out _ HK6.out) 0 (by decide) 1 (by rfl))
    have HW6 := jA hw6
    clear hP6 hK6 hw6
    refine start_ (n := 17) (S := fun w' => w'.cell? ⟨b9, 0, none⟩ = some (.slice (some ⟨bp, 0, none⟩) 20 22)) (ds := [16]) (Jb 17 0) (by kernel_rfl) rfl (by kernel_rfl) p9 (fun hHeld => ?_)
    rw [← HW6.out] at hHeld ⊢
    refine Jk 0 41 (Jb 17 1) rfl rfl hHeld (.inl ⟨by rfl, by rintro w' s0; go_simp; with_reducible rfl⟩) ?_
    refine Jp 1 42 (Jb 17 3) rfl rfl ?_
    refine Jp 2 43 (Jb 17 7) rfl rfl ?_
    refine Jp 3 44 (Jb 17 15) rfl rfl ?_
    refine Jk 4 45 (Jb 17 31) rfl rfl hHeld (.inl ⟨by rfl, by rintro w' s0; go_simp; with_reducible rfl⟩) ?_
    refine Jp 5 46 (Jb 17 63) rfl rfl ?_
    refine Jp 6 47 (Jb 17 127) rfl rfl ?_
    refine Jp 7 48 (Jb 17 255) rfl rfl ?_
    refine Jp 8 49 (Jb 17 511) rfl rfl ?_
    refine Jp 9 50 (Jb 17 1023) rfl rfl ?_
    refine Jp 10 51 (Jb 17 2047) rfl rfl ?_
    refine Jp 11 52 (Jb 17 4095) rfl rfl ?_
    refine one_ (i := 12) (N := some 53) (Jb 17 8191) rfl rfl (by kernel_rfl) (by decide) (fun K hK => ?_)
    refine goesV_ 51 #[] #[.pointer (some ⟨b4, 0, none⟩)] Tryz.func71 (by kernel_rfl) rfl #[.int .i64 0, .pointer (some ⟨b4, 0, none⟩)] (by rfl) rfl rfl rfl (by first | rfl | (simp [Act.eval]; done) | (simp [Act.eval]; rfl)) ?_
    refine HN.out.mono ?_
    rintro e w7 ⟨rfl, hw7⟩
    rw [hw7]
    clear hw7
    refine ⟨_, rfl, ?_⟩
    refine hK.out _ _ p9' (fun hHeld => ?_)
    clear hK K
    refine norm_ (a' := ?_) ?_ ?_; rotate_left; (show Act.put _ (some 53) _ = _; simp only [Act.put, Jq, Jr, Js]; rfl)
    refine Jp 13 54 (Jb 17 16383) rfl rfl ?_
    refine one_ (i := 14) (N := none) (Jb 17 32767) rfl rfl (by kernel_rfl) (by decide) (fun K hK => ?_)
    refine GDiffer.step_skip (w' := w6.setCell ⟨bp, 16, none⟩ (.int .i64 18)) rfl rfl (by have hst := store_int (v := 18) (HP6.out.cellw 16 0 rfl) (MPut.frozen_of_row HP6.out.pg 16); simp [execOp, Act.eval, hst]) ?_
    refine hK.out _ _ (cellOf (HP6.out.word 16 18).p 0 _ rfl) (fun hHeld => ?_)
    clear hK K
    refine norm_ (a' := ?_) ?_ ?_; rotate_left; (show Act.put _ (none) _ = _; simp only [Act.put, Jq, Jr, Js]; rfl)
    refine Jp 15 55 (Jb 17 65535) rfl rfl ?_
    refine last_ (i := 16) (N := none) (Jb 17 131071) rfl rfl (by kernel_rfl) (by decide) (fun K hK => ?_)
    refine GDiffer.step_skip (w' := (w6.setCell ⟨bp, 16, none⟩ (.int .i64 18)).setCell ⟨bp, 17, none⟩ (.int .i64 1)) rfl rfl (by have hst := store_int (v := 1) ((HP6.out.word 16 18).cellw 17 0 rfl) (MPut.frozen_of_row (HP6.out.word 16 18).pg 17); simp [execOp, Act.eval, hst]) ?_
    refine hK.out _ _ ?_
    clear hK K
    refine done_ (by kernel_rfl) ?_
    have hP7 := (HP6.out.word 16 18).word 17 1
    have hK7 := ((HK6.out.setCell (p := ⟨bp, 16, none⟩) (fun e => e.2 rfl) (.int .i64 18)).setCell (p := ⟨bp, 17, none⟩) (fun e => e.2 rfl) (.int .i64 1))
    have HP7 := jA hP7
    have HK7 := jA hK7
    clear hP7 hK7
    go_wp2
    go_roundw
    case rel => exact .inr ⟨by first | rfl | go_num, HP7.out, HK7.out⟩
    case measure => simp [intOf]
  ·go_wp2
   go_end0
   exact ⟨rfl, HR.out.1, HR.out.2⟩
end Go.Proofs.YtdgkppldopiaoaaGreat.RPput
/- page.Lay of the graph of one("ann"), walked. -/
namespace Go.Proofs.YtdgkppldopiaoaaGreat.RLay
open Go.RowKit YtdgkppldopiaoaaGreatW.PrintWords YtdgkppldopiaoaaGreatW.PrintLast YtdgkppldopiaoaaGreatW.PrintMore BMap BRow GDiffer GValid MLines MPol MPut RMem RCells REpoch RMach RSeek RNew RCput RRun RIndex ROne RPage RPput Go.Maps
open PG
set_option maxHeartbeats 2000000
set_option maxRecDepth 100000
def FL (w : World) (bi bm : Nat) : Nat → Prop := fun k => k < w.heap.size ∧ k ≠ bi ∧ k ≠ bm
theorem C_keep {α : Type} {d : Kd α} {w W : World} {A : Option Addr} {n : Nat} {xs : List α} (h : Kd.C d w A n xs) (hd : ∀ x ∈ xs, ∀ cs, d.K w x cs → d.K W x cs ∧ ∀ a u, u ∈ cs → w.cell? a = some u → W.cell? a = some u) : Kd.C d W A n xs := by
 refine ⟨h.1, h.2.1, fun hn => ?_⟩
 obtain ⟨ad, e, hc⟩ := h.2.2 hn
 refine ⟨ad, e, fun j p hj => ?_⟩
 obtain ⟨c, h1, h2, h3⟩ := hc j p hj
 have hp := hd p (List.mem_of_getElem? hj) c h2
 exact ⟨c, h1, hp.1, fun i u hu => hp.2 _ u (List.mem_of_getElem? hu) (h3 i u hu)⟩
theorem cell_keep {w W : World} {bi bm : Nat} {F : Nat → Prop} {v : Value} {n : Nat} {L : List ByteArray} (hI : Ix F w bi bm L (.slice none 0 0) n) (hk : Keep (FL w bi bm) w W) {a : Addr} {u : Value} (hc : w.cell? a = some u) (hu : ∀ m, u ≠ .map m) (hs : u ≠ .slice none 0 0) : W.cell? a = some u := by
 have hlt := World.block_lt_of_cell? w _ hc
 have h1 : a.block ≠ bi := fun e => by
  have hv := hI.var
  rw [← e] at hv
  unfold World.cell? at hc
  rw [hv] at hc
  have hc' : (#[Value.map (some bm), .slice none 0 0] : Array Value)[a.off]? = some u := by
   simp at hc
   simpa using hc.2
  have ho := (Array.getElem?_eq_some_iff.1 hc').1
  rcases (by simp at ho; omega : a.off = 0 ∨ a.off = 1) with h0 | h0
  ·rw [h0] at hc'; exact hu _ (by simpa using hc'.symm)
  ·rw [h0] at hc'; exact hs (by simpa using hc'.symm)
 have h2 : a.block ≠ bm := fun e => by
  obtain ⟨es, cl, l, hb, _⟩ := hI.map.out
  rw [← e] at hb
  unfold World.cell? at hc
  rw [hb] at hc
  simp at hc
 rw [World.cell?_of_block (w := w) (hk.at_ _ hlt ⟨hlt, h1, h2⟩)]
 exact hc
theorem in_keep {a : Ad} {w W : World} {bi bm : Nat} {F : Nat → Prop} {n : Nat} {L : List ByteArray} (hI : Ix F w bi bm L (.slice none 0 0) n) (hg : a.g.In w) (hk : Keep (FL w bi bm) w W) : a.g.In W := by
 have ck : ∀ (ad : Addr) (u : Value), (∀ m, u ≠ .map m) → u ≠ .slice none 0 0 → w.cell? ad = some u → W.cell? ad = some u := fun ad u h1 h2 hc => cell_keep (v := .slice none 0 0) hI hk hc h1 h2
 have st : ∀ {A : Option Addr} {k : Nat} {xs : List ByteArray}, Kd.C Kd.string w A k xs → Kd.C Kd.string W A k xs := fun h => C_keep h (fun x _ cs hx => by
  have hx' : cs = [.string x] := hx
  subst hx'
  exact ⟨rfl, fun ad u hu hc => by rw [List.mem_singleton.1 hu] at hc ⊢; exact ck ad _ (fun m e => by cases e) (fun e => by cases e) hc⟩)
 have it : ∀ {kk : IntKind} {A : Option Addr} {k : Nat} {xs : List Int}, Kd.C (Kd.int kk) w A k xs → Kd.C (Kd.int kk) W A k xs := fun h => C_keep h (fun x _ cs hx => by
  have hx' : cs = [.int _ x] := hx
  subst hx'
  exact ⟨rfl, fun ad u hu hc => by rw [List.mem_singleton.1 hu] at hc ⊢; exact ck ad _ (fun m e => by cases e) (fun e => by cases e) hc⟩)
 exact { hg with
  h0 := st hg.h0
  h1 := st hg.h1
  h2 := st hg.h2
  h3 := it hg.h3
  h4 := it hg.h4
  h5 := C_keep hg.h5 (fun x hx cs hK => by
   obtain ⟨A, c, rfl, hl, hC⟩ := hK
   refine ⟨⟨A, c, rfl, hl, it hC⟩, fun ad u hu hc => ?_⟩
   rw [List.mem_singleton.1 hu] at hc ⊢
   refine ck ad _ (fun m e => by cases e) (fun e => ?_) hc
   have hx' : x = [1] ∨ x = [0] := by simpa [Ad.g] using hx
   rcases hx' with rfl | rfl <;> simp at e) }
theorem make_page (w : World) : (Instr.makeSlice 22 (.int .i64 20) (.int .i64 22)).run Tryz.prog w = .ok (.slice (some ⟨w.heap.size, 0, none⟩) 20 22) (w.alloc (.cells (wordsV (List.replicate 22 0)) 3)) := by
 have h : (Tryz.prog.info? 3).map (fun i => (i.zero, i.size, i.bytes)) = some (some (.int .i64 0), 1, 8) := PG.info3
 obtain ⟨i, h1, hz⟩ := Option.map_eq_some_iff.1 h
 simp only [Prod.mk.injEq] at hz
 obtain ⟨h2, h3, h4⟩ := hz
 have := run_make (P := Tryz.prog) w 22 3 i _ Tryz.underlying22 h1 h2 .i64 .i64 20 22 (by omega) (by omega) (by rw [h4]; omega) (by omega)
 rw [h3] at this
 rw [← made_words]
 simpa [Value.cells] using this
theorem z22 (w : World) : (zeroValue 22).run Tryz.prog w = .ok (.slice none 0 0) w := by kernel_rfl
theorem store_page {W : World} {bp : Nat} {old : Value} {a : Addr} (hc : W.cell? a = some old) (hf : W.frozen? a = false) :
  (Instr.storeAt 22 (.pointer (some a)) (.slice (some ⟨bp, 0, none⟩) 20 22)).run Tryz.prog W = .ok () (W.setCell a (.slice (some ⟨bp, 0, none⟩) 20 22)) := by
 have hu := Tryz.underlying22
 simp [Instr.storeAt, Instr.sureAddr, go_sem, hc, hf, hu]
structure Pen (F : Nat → Prop) (w : World) (bi bm b9 bp n : Nat) (ws : List Int) : Prop where
 p : w.heap[b9]? = some (.cells #[.slice (some ⟨bp, 0, none⟩) n 22] 22 (0, 0))
 pg : w.heap[bp]? = some (.cells (wordsV ws) 3 (0, 0))
 ix : IxE F w bi bm [bOpen, bAnn, bBob, bDoor]
theorem app_page (W : World) (bp n : Nat) (ws : List Int) (x : Int) (h : W.heap[bp]? = some (.cells (wordsV ws) 3 (0, 0))) (hl : ws.length = 22) (hn : n < 22) :
  (Builtin.append_ #[22, 22] 22 #[.slice (some ⟨bp, 0, none⟩) n 22, .slice (some ⟨W.heap.size, 0, none⟩) 1 1]).run Tryz.prog (W.alloc (.cells #[.int .i64 x] 3)) = .ok (.slice (some ⟨bp, 0, none⟩) (n + 1) 22) ((W.alloc (.cells #[.int .i64 x] 3)).setCell ⟨bp, n, none⟩ (.int .i64 x)) := by
 have hs := heap_alloc_new W (.cells #[.int .i64 x] 3)
 have h1 := boxB h (below_alloc (Below.refl _ W) (.cells #[.int .i64 x] 3))
 have hi3 : (Tryz.prog.info? 3).map (fun i => (i.zero, i.size, i.bytes)) = some (some (.int .i64 0), 1, 8) := PG.info3
 obtain ⟨i, hi, hz⟩ := Option.map_eq_some_iff.1 hi3
 simp only [Prod.mk.injEq] at hz
 have := run_append_room_cells (P := Tryz.prog) (W.alloc (.cells #[.int .i64 x] 3)) 22 22 3 i Tryz.underlying22 hi bp 0 n 22 ⟨W.heap.size, 0, none⟩ 1 1 [.int .i64 x] (by rw [hz.2.1]; rfl) (cells7 (vs := [.int .i64 x]) hs) (by intro v hv; rw [List.mem_singleton.1 hv]; rfl) (by omega)
  (fun j hj => by
   have : j = 0 := by simpa using hj
   subst this
   rw [cell_of_row _ _ _ _ _ _ h1, hz.2.1]
   have e : 0 + n * 1 + 0 = n := by omega
   rw [e, wordsV, List.getElem?_toArray, List.getElem?_map, List.getElem?_eq_getElem (by omega)]
   rfl) (fun j hj => MPut.frozen_of_row h1 _)
 rw [hz.2.1] at this
 have e : 0 + n * 1 = n := by omega
 rw [e] at this
 exact this
theorem copy_hdr (W : World) (bp : Nat) (h : (W.alloc (.cells #[.int .i64 5, .int .i64 8, .int .i64 2, .int .i64 1] 3)).heap[bp]? = some (.cells (wordsV (List.replicate 22 0)) 3 (0, 0))) :
  ∃ W2, (Builtin.copy_ #[22, 22] 3 #[.slice (some ⟨bp, 0, none⟩) 20 22, .slice (some ⟨W.heap.size, 0, none⟩) 4 4]).run Tryz.prog (W.alloc (.cells #[.int .i64 5, .int .i64 8, .int .i64 2, .int .i64 1] 3)) = .ok (.int .i64 4) W2 ∧ W2.heap[bp]? = some (.cells (wordsV [5, 8, 2, 1, 0, 0, 0, 0, 0, 0, 0, 0, 0, 0, 0, 0, 0, 0, 0, 0, 0, 0]) 3 (0, 0)) ∧ Only bp (W.alloc (.cells #[.int .i64 5, .int .i64 8, .int .i64 2, .int .i64 1] 3)) W2 := by
 have hs := heap_alloc_new W (.cells #[.int .i64 5, .int .i64 8, .int .i64 2, .int .i64 1] 3)
 have := run_copy_row (P := Tryz.prog) (W.alloc (.cells #[.int .i64 5, .int .i64 8, .int .i64 2, .int .i64 1] 3)) 22 22 3 3 bp 0 20 22 ⟨W.heap.size, 0, none⟩ 4 4 _ 3 [.int .i64 5, .int .i64 8, .int .i64 2, .int .i64 1] Tryz.underlying22 (by kernel_rfl) h rfl (cells7 (vs := [.int .i64 5, .int .i64 8, .int .i64 2, .int .i64 1]) hs) (by decide) (by intro v hv; simp at hv; rcases hv with rfl | rfl | rfl | rfl <;> rfl)
 refine ⟨_, this, setRow_heap _ bp _ _ 3 (0, 0) h, ⟨by simp, fun k hk => setRow_other _ bp k _ hk, rfl, rfl, rfl⟩⟩
def pageW : List Int := [5, 8, 2, 1, 0, 0, 7, 1, 0, 0, 13, 2, 0, 0, 0, 0, 18, 1, 9, 1, 1, 0]
theorem lay_calls (a : Ad) (F : Nat → Prop) (w : World) (bi bm : Nat) (hg : a.g.In w) (hI : Ix F w bi bm [] (.slice none 0 0) 0) :
  Calls Tryz.prog 48 #[.int .i64 5, .agg a.v, .pointer (some ⟨bi, 0, none⟩)] w fun e w' => ∃ bp, e = .returned (.tuple #[.slice (some ⟨bp, 0, none⟩) 22 22, .int .i64 0]) ∧ w'.heap[bp]? = some (.cells (wordsV pageW) 3 (0, 0)) ∧ w.heap.size ≤ bp ∧ IxE (FL w bi bm) w' bi bm [bOpen, bAnn, bBob, bDoor] ∧ Keep (FL w bi bm) w w' := by
 obtain ⟨w2, hw2⟩ : ∃ q, q = (w.alloc (.cells a.v 142)).alloc (.cells #[.pointer (some ⟨bi, 0, none⟩)] 135) := ⟨_, rfl⟩
 have hz1 : (w.alloc (.cells a.v 142)).heap.size = w.heap.size + 1 := Array.size_push _
 have hz2 : w2.heap.size = w.heap.size + 2 := by rw [hw2]; exact (Array.size_push _).trans (by rw [hz1])
 have hb2 : Below w.heap.size w w2 := by rw [hw2]; exact below_alloc (below_alloc (Below.refl _ _) _) _
 have h4 : w2.heap[w.heap.size]? = some (.cells a.v 142 (0, 0)) := by rw [hw2]; exact (Below.heap_alloc _ _ _ (by rw [hz1]; omega)).trans (heap_alloc_new w _)
 have h5 : w2.heap[w.heap.size + 1]? = some (.cells #[.pointer (some ⟨bi, 0, none⟩)] 135 (0, 0)) := by
  have := heap_alloc_new (w.alloc (.cells a.v 142)) (.cells #[.pointer (some ⟨bi, 0, none⟩)] 135)
  rw [hz1, ← hw2] at this
  exact this
 have hg2 := hg.below hb2
 have hI2 := hI.below hb2
 have c5 := cellOf h5 0 (.pointer (some ⟨bi, 0, none⟩)) rfl
 have HQ1 := jA (valid1 a w2 hg2)
 have HW2 := jA hw2
 have HZ1 := jA hz1
 have HZ2 := jA hz2
 have HB2 := jA hb2
 have H4 := jA h4
 have H5 := jA h5
 have HG := jA hg
 have HG2 := jA hg2
 have HI := jA hI
 have HI2 := jA hI2
 have HC2 := jA (cells7 (vs := a.v.toList) h4)
 have HIF := jA (show (Tryz.prog.info? 142).map (·.size) = some a.v.toList.length from i59)
 obtain ⟨av, hav⟩ : ∃ q, q = a.v := ⟨_, rfl⟩
 have HAV := jA hav
 rw [← hav] at HQ1 H4 HW2 HZ1 HC2 HIF ⊢
 clear hav hw2 hz1 hz2 hb2 h4 h5 hg hI hg2 hI2
 obtain ⟨b4, hb4⟩ : ∃ q, q = w.heap.size := ⟨_, rfl⟩
 rw [← hb4] at c5 H4 H5 HC2
 have HN4 := jA hb4
 go_enter Tryz.func48, Tryz.ntmps48
 go_upto_region 1 with fail
 (try rw [HZ1.out])
 rw [← HW2.out, ← hb4]
 clear hb4
 go_upto_region 7 with (first | ((with_reducible refine gate_dst (N := 26) rfl ?_); refine wpList_load_at rfl 142 (.tmp 4) rfl ⟨b4, 0, none⟩ ?hx av.toList HC2.out _ Tryz.underlying142 rfl HIF.out ?_; (case hx => rfl)) | (go_at_call 62; (refine HQ1.out.mono ?_); rintro e w3 ⟨rfl, hb3⟩; have HB3 := jA hb3; have c5b := cellBelow hb3 c5; clear hb3 c5))
 have H43 := jA (boxB H4.out HB3.out)
 have HC3 := jA (cells7 (vs := av.toList) H43.out)
 have HQ2 := jA (show Calls Tryz.prog 63 #[.agg av, .pointer (some ⟨bi, 0, none⟩)] w3 _ from by rw [HAV.out]; exact room_calls a F w3 bi bm (.slice none 0 0) 0 (HG2.out.below HB3.out) (HI2.out.below HB3.out))
 go_upto_region 9 with (first | ((with_reducible refine gate_dst (N := 30) rfl ?_); refine wpList_load_at rfl 142 (.tmp 4) rfl ⟨b4, 0, none⟩ ?hx av.toList HC3.out _ Tryz.underlying142 rfl HIF.out ?_; (case hx => rfl)) | (go_at_call 63; (refine HQ2.out.mono ?_); rintro e w4 ⟨rfl, hb4⟩; have HB4 := jA hb4; clear hb4 c5b))
 have H44 := jA (boxB H43.out HB4.out)
 have HC4 := jA (cells7 (vs := av.toList) H44.out)
 have HQ3 := jA (show Calls Tryz.prog 64 #[.agg av] w4 _ from by rw [HAV.out]; exact places1 a w4 ((HG2.out.below HB3.out).below HB4.out))
 go_upto_region 10 with (first | ((with_reducible refine gate_dst (N := 34) rfl ?_); refine wpList_load_at rfl 142 (.tmp 4) rfl ⟨b4, 0, none⟩ ?hx av.toList HC4.out _ Tryz.underlying142 rfl HIF.out ?_; (case hx => rfl)) | (go_at_call 64; (refine HQ3.out.mono ?_); rintro e w5 ⟨rfl, hb5⟩; have HB5 := jA hb5; clear hb5))
 obtain ⟨w6, hw6⟩ : ∃ q, q = w5.alloc (.cells #[.int .i64 8] 3) := ⟨_, rfl⟩
 obtain ⟨b8, hb8⟩ : ∃ q, q = w5.heap.size := ⟨_, rfl⟩
 have h88 := heap_alloc_new w5 (.cells #[.int .i64 8] 3)
 have hb6 : Below w5.heap.size w5 w6 := by rw [hw6]; exact below_alloc (Below.refl _ _) _
 rw [← hw6, ← hb8] at h88
 rw [← hw6, ← hb8]
 have H46 := jA (boxB (boxB H44.out HB5.out) hb6)
 have hB26 : Below w.heap.size w w6 := below_then (below_then (below_then (below_then HB2.out HB2.out.size HB3.out) (below_then HB2.out HB2.out.size HB3.out).size HB4.out) (below_then (below_then HB2.out HB2.out.size HB3.out) (below_then HB2.out HB2.out.size HB3.out).size HB4.out).size HB5.out) (below_then (below_then (below_then HB2.out HB2.out.size HB3.out) (below_then HB2.out HB2.out.size HB3.out).size HB4.out) (below_then (below_then HB2.out HB2.out.size HB3.out) (below_then HB2.out HB2.out.size HB3.out).size HB4.out).size HB5.out).size hb6
 have HB26 := jA hB26
 have H56 := jA (boxB (boxB (boxB (boxB H5.out HB3.out) HB4.out) HB5.out) hb6)
 have HG6 := jA ((((HG2.out.below HB3.out).below HB4.out).below HB5.out).below hb6)
 have HI6 := jA (((((HI2.out.below HB3.out).below HB4.out).below HB5.out).below hb6))
 have h8w : w.heap.size ≤ b8 := by rw [hb8]; have h1 := HB2.out.size; have h2 := HB3.out.size; have h3 := HB4.out.size; have h4 := HB5.out.size; omega
 have H88 := jA h88
 have H8W := jA h8w
 have c8 := cellOf h88 0 (.int .i64 8) rfl
 clear hw6 hb8 h88 hb6 hB26 h8w
 go_cut [9] (fun v9 wx => ∃ (b9 bp : Nat), v9 = .pointer (some ⟨b9, 0, none⟩) ∧ Aside0 (Below w6.heap.size w6 wx ∧ w6.heap.size ≤ b9 ∧ w6.heap.size ≤ bp ∧ b9 ≠ bp ∧ wx.heap[b9]? = some (.cells #[.slice (some ⟨bp, 0, none⟩) 20 22] 22 (0, 0)) ∧ wx.heap[bp]? = some (.cells (wordsV (List.replicate 22 0)) 3 (0, 0))))
 case first =>
  have c8d : w6.drew.cell? ⟨b8, 0, none⟩ = some (.int .i64 8) := c8
  have HC6 := jA (cells7 (vs := av.toList) (show w6.drew.heap[b4]? = _ from H46.out))
  have v1 : IntKind.i64.wrap 16 = 16 := by decide
  have v2 : IntKind.i64.wrap 20 = 20 := by decide
  refine start_ (n := 8) (S := fun w' => w'.cell? ⟨b8, 0, none⟩ = some (.int .i64 8) ∧ w'.heap[b4]? = some (.cells av 142 (0, 0))) (ds := [7]) (Jb 8 0) (by kernel_rfl) rfl (by kernel_rfl) ⟨c8d, H46.out⟩ (fun hHeld => ?_)
  refine Jk 0 36 (Jb 8 1) rfl rfl hHeld (.inl ⟨by rfl, by rintro w' ⟨s0, s1⟩; go_simp; with_reducible rfl⟩) ?_
  refine Jp 1 37 (Jb 8 3) rfl rfl ?_
  refine Jp 2 38 (Jb 8 7) rfl rfl ?_
  refine Jk 3 39 (Jb 8 15) rfl rfl hHeld (.inl ⟨by rfl, by rintro w' ⟨s0, s1⟩; exact exec_load_at 142 _ rfl ⟨b4, 0, none⟩ rfl av.toList (cells7 (vs := av.toList) s1) _ Tryz.underlying142 rfl HIF.out⟩) ?_
  have hT : Below w6.heap.size w6 w6.drew := below_drew (Below.refl _ _)
  have hc8 := c8d
  have hh4 : w6.drew.heap[b4]? = some (.cells av 142 (0, 0)) := H46.out
  have hsz0 : w6.drew.heap.size = w6.heap.size := rfl
  refine two_ (i := 4) (j := 6) (Ni := some 40) (Nj := some 9) (Jb 8 31) (Jb 8 79) rfl rfl rfl rfl (by kernel_rfl) (by decide) (by decide) (fun K hK => ?_) (fun K hK => ?_)
  ·refine goes_ Tryz.func65 (by kernel_rfl) rfl #[.agg av] (by rfl) rfl rfl (by (try simp only [List.map_toArray, List.map_cons, List.map_nil]); first | done | rfl) ?_
   refine (show Calls Tryz.prog 65 #[.agg av] w6.drew _ from by rw [HAV.out]; exact size_calls a w6.drew (HG6.out.drew)).mono ?_
   rintro e x0 ⟨rfl, hq0⟩
   refine ⟨_, rfl, ?_⟩
   have hz0 := hq0.size
   have hT := below_then hT hT.size hq0
   have hc8 := cellBelow hq0 hc8
   have hh4 := boxB hh4 hq0
   refine hK.out _ _ ⟨hc8, hh4⟩ (fun hHeld => ?_)
   clear hK K hHeld
   have hHeld : x0.cell? ⟨b8, 0, none⟩ = some (.int .i64 8) ∧ x0.heap[b4]? = some (.cells av 142 (0, 0)) := ⟨hc8, hh4⟩
   refine norm_ (a' := ?_) ?_ ?_; rotate_left; (show Act.put _ (some 40) _ = _; simp only [Act.put, Jq, Jr, Js]; rfl)
   refine two_ (i := 5) (j := 6) (Ni := some 41) (Nj := some 9) (Jb 8 63) (Jb 8 95) rfl rfl rfl rfl (by kernel_rfl) (by decide) (by decide) (fun K hK => ?_) (fun K hK => ?_)
   ·refine GDiffer.step_run (w' := x0.alloc (.cells (wordsV (List.replicate 22 0)) 3)) (v := .slice (some ⟨x0.heap.size, 0, none⟩) 20 22) rfl rfl (by simp [execOp, Act.eval, make_page]) ?_
    obtain ⟨x1, hx1⟩ : ∃ q, q = x0.alloc (.cells (wordsV (List.replicate 22 0)) 3) := ⟨_, rfl⟩
    have hq1 : Below x0.heap.size x0 x1 := by rw [hx1]; exact below_alloc (Below.refl _ _) _
    have hbp : x1.heap[x0.heap.size]? = some (.cells (wordsV (List.replicate 22 0)) 3 (0, 0)) := by rw [hx1]; exact heap_alloc_new _ _
    obtain ⟨bp, hbpe⟩ : ∃ q, q = x0.heap.size := ⟨_, rfl⟩
    rw [← hx1, ← hbpe]
    rw [← hbpe] at hbp
    have hbl : bp < x1.heap.size := (Array.getElem?_eq_some_iff.1 hbp).1
    have hz1 := hq1.size
    have hT := below_then hT hT.size hq1
    have hc8 := cellBelow hq1 hc8
    have hh4 := boxB hh4 hq1
    refine hK.out _ _ ⟨hc8, hh4⟩ (fun hHeld => ?_)
    clear hK K hHeld
    have hHeld : x1.cell? ⟨b8, 0, none⟩ = some (.int .i64 8) ∧ x1.heap[b4]? = some (.cells av 142 (0, 0)) := ⟨hc8, hh4⟩
    refine norm_ (a' := ?_) ?_ ?_; rotate_left; (show Act.put _ (some 41) _ = _; simp only [Act.put, Jq, Jr, Js]; rfl)
    refine one_ (i := 6) (N := some 9) (Jb 8 127) rfl rfl (by kernel_rfl) (by decide) (fun K hK => ?_)
    have hz49 := z22
    refine GDiffer.step_run (w' := x1.alloc (.cells #[.slice none 0 0] 22)) (v := .pointer (some ⟨x1.heap.size, 0, none⟩)) rfl rfl (by go_simp) ?_
    clear hz49
    obtain ⟨x2, hx2⟩ : ∃ q, q = x1.alloc (.cells #[.slice none 0 0] 22) := ⟨_, rfl⟩
    have hq2 : Below x1.heap.size x1 x2 := by rw [hx2]; exact below_alloc (Below.refl _ _) _
    have hb9 : x2.heap[x1.heap.size]? = some (.cells #[.slice none 0 0] 22 (0, 0)) := by rw [hx2]; exact heap_alloc_new _ _
    obtain ⟨b9, hb9e⟩ : ∃ q, q = x1.heap.size := ⟨_, rfl⟩
    rw [← hx2, ← hb9e]
    rw [← hb9e] at hb9
    have hb9l : b9 < x2.heap.size := (Array.getElem?_eq_some_iff.1 hb9).1
    have hbp := boxB hbp hq2
    have hz2 := hq2.size
    have hT := below_then hT hT.size hq2
    have hc8 := cellBelow hq2 hc8
    have hh4 := boxB hh4 hq2
    refine hK.out _ _ ⟨hc8, hh4⟩ (fun hHeld => ?_)
    clear hK K hHeld
    have hHeld : x2.cell? ⟨b8, 0, none⟩ = some (.int .i64 8) ∧ x2.heap[b4]? = some (.cells av 142 (0, 0)) := ⟨hc8, hh4⟩
    refine norm_ (a' := ?_) ?_ ?_; rotate_left; (show Act.put _ (some 9) _ = _; simp only [Act.put, Jq, Jr, Js]; rfl)
    refine last_ (i := 7) (N := none) (Jb 8 255) rfl rfl (by kernel_rfl) (by decide) (fun K hK => ?_)
    refine GDiffer.step_skip (w' := x2.setCell ⟨b9, 0, none⟩ (.slice (some ⟨bp, 0, none⟩) 20 22)) rfl rfl (by have hst := store_page (W := x2) (bp := bp) (cellOf hb9 0 _ rfl) (MPut.frozen_of_row hb9 0); simp [execOp, Act.eval, hst]) ?_
    refine hK.out _ _ ?_
    clear hK K
    refine done_ (by kernel_rfl) ?_
    have hne : b9 ≠ bp := by omega
    have hf : Aside0 (Below w6.heap.size w6 (x2.setCell ⟨b9, 0, none⟩ (.slice (some ⟨bp, 0, none⟩) 20 22)) ∧ w6.heap.size ≤ b9 ∧ w6.heap.size ≤ bp ∧ b9 ≠ bp ∧ (x2.setCell ⟨b9, 0, none⟩ (.slice (some ⟨bp, 0, none⟩) 20 22)).heap[b9]? = some (.cells #[.slice (some ⟨bp, 0, none⟩) 20 22] 22 (0, 0)) ∧ (x2.setCell ⟨b9, 0, none⟩ (.slice (some ⟨bp, 0, none⟩) 20 22)).heap[bp]? = some (.cells (wordsV (List.replicate 22 0)) 3 (0, 0))) := ⟨hT.setCell (show w6.heap.size ≤ b9 by omega) _, by omega, by omega, hne, blk_set hb9 0 _, (Below.heap_setCell _ _ _ _ (fun e => hne e.symm)).trans hbp⟩
    clear hb9 hbp hT hc8 hh4 hHeld
    go_wp2
    go_meet
    exact ⟨b9, bp, rfl, hf⟩
   ·have hz49 := z22
    refine GDiffer.step_run (w' := x0.alloc (.cells #[.slice none 0 0] 22)) (v := .pointer (some ⟨x0.heap.size, 0, none⟩)) rfl rfl (by go_simp) ?_
    clear hz49
    obtain ⟨x1, hx1⟩ : ∃ q, q = x0.alloc (.cells #[.slice none 0 0] 22) := ⟨_, rfl⟩
    have hq1 : Below x0.heap.size x0 x1 := by rw [hx1]; exact below_alloc (Below.refl _ _) _
    have hb9 : x1.heap[x0.heap.size]? = some (.cells #[.slice none 0 0] 22 (0, 0)) := by rw [hx1]; exact heap_alloc_new _ _
    obtain ⟨b9, hb9e⟩ : ∃ q, q = x0.heap.size := ⟨_, rfl⟩
    rw [← hx1, ← hb9e]
    rw [← hb9e] at hb9
    have hb9l : b9 < x1.heap.size := (Array.getElem?_eq_some_iff.1 hb9).1
    have hz1 := hq1.size
    have hT := below_then hT hT.size hq1
    have hc8 := cellBelow hq1 hc8
    have hh4 := boxB hh4 hq1
    refine hK.out _ _ ⟨hc8, hh4⟩ (fun hHeld => ?_)
    clear hK K hHeld
    have hHeld : x1.cell? ⟨b8, 0, none⟩ = some (.int .i64 8) ∧ x1.heap[b4]? = some (.cells av 142 (0, 0)) := ⟨hc8, hh4⟩
    refine norm_ (a' := ?_) ?_ ?_; rotate_left; (show Act.put _ (some 9) _ = _; simp only [Act.put, Jq, Jr, Js]; rfl)
    refine one_ (i := 5) (N := some 41) (Jb 8 127) rfl rfl (by kernel_rfl) (by decide) (fun K hK => ?_)
    refine GDiffer.step_run (w' := x1.alloc (.cells (wordsV (List.replicate 22 0)) 3)) (v := .slice (some ⟨x1.heap.size, 0, none⟩) 20 22) rfl rfl (by simp [execOp, Act.eval, make_page]) ?_
    obtain ⟨x2, hx2⟩ : ∃ q, q = x1.alloc (.cells (wordsV (List.replicate 22 0)) 3) := ⟨_, rfl⟩
    have hq2 : Below x1.heap.size x1 x2 := by rw [hx2]; exact below_alloc (Below.refl _ _) _
    have hbp : x2.heap[x1.heap.size]? = some (.cells (wordsV (List.replicate 22 0)) 3 (0, 0)) := by rw [hx2]; exact heap_alloc_new _ _
    obtain ⟨bp, hbpe⟩ : ∃ q, q = x1.heap.size := ⟨_, rfl⟩
    rw [← hx2, ← hbpe]
    rw [← hbpe] at hbp
    have hbl : bp < x2.heap.size := (Array.getElem?_eq_some_iff.1 hbp).1
    have hb9 := boxB hb9 hq2
    have hz2 := hq2.size
    have hT := below_then hT hT.size hq2
    have hc8 := cellBelow hq2 hc8
    have hh4 := boxB hh4 hq2
    refine hK.out _ _ ⟨hc8, hh4⟩ (fun hHeld => ?_)
    clear hK K hHeld
    have hHeld : x2.cell? ⟨b8, 0, none⟩ = some (.int .i64 8) ∧ x2.heap[b4]? = some (.cells av 142 (0, 0)) := ⟨hc8, hh4⟩
    refine norm_ (a' := ?_) ?_ ?_; rotate_left; (show Act.put _ (some 41) _ = _; simp only [Act.put, Jq, Jr, Js]; rfl)
    refine last_ (i := 7) (N := none) (Jb 8 255) rfl rfl (by kernel_rfl) (by decide) (fun K hK => ?_)
    refine GDiffer.step_skip (w' := x2.setCell ⟨b9, 0, none⟩ (.slice (some ⟨bp, 0, none⟩) 20 22)) rfl rfl (by have hst := store_page (W := x2) (bp := bp) (cellOf hb9 0 _ rfl) (MPut.frozen_of_row hb9 0); simp [execOp, Act.eval, hst]) ?_
    refine hK.out _ _ ?_
    clear hK K
    refine done_ (by kernel_rfl) ?_
    have hne : b9 ≠ bp := by omega
    have hf : Aside0 (Below w6.heap.size w6 (x2.setCell ⟨b9, 0, none⟩ (.slice (some ⟨bp, 0, none⟩) 20 22)) ∧ w6.heap.size ≤ b9 ∧ w6.heap.size ≤ bp ∧ b9 ≠ bp ∧ (x2.setCell ⟨b9, 0, none⟩ (.slice (some ⟨bp, 0, none⟩) 20 22)).heap[b9]? = some (.cells #[.slice (some ⟨bp, 0, none⟩) 20 22] 22 (0, 0)) ∧ (x2.setCell ⟨b9, 0, none⟩ (.slice (some ⟨bp, 0, none⟩) 20 22)).heap[bp]? = some (.cells (wordsV (List.replicate 22 0)) 3 (0, 0))) := ⟨hT.setCell (show w6.heap.size ≤ b9 by omega) _, by omega, by omega, hne, blk_set hb9 0 _, (Below.heap_setCell _ _ _ _ (fun e => hne e.symm)).trans hbp⟩
    clear hb9 hbp hT hc8 hh4 hHeld
    go_wp2
    go_meet
    exact ⟨b9, bp, rfl, hf⟩
  ·have hz49 := z22
   refine GDiffer.step_run (w' := w6.drew.alloc (.cells #[.slice none 0 0] 22)) (v := .pointer (some ⟨w6.drew.heap.size, 0, none⟩)) rfl rfl (by go_simp) ?_
   clear hz49
   obtain ⟨x0, hx0⟩ : ∃ q, q = w6.drew.alloc (.cells #[.slice none 0 0] 22) := ⟨_, rfl⟩
   have hq0 : Below w6.drew.heap.size w6.drew x0 := by rw [hx0]; exact below_alloc (Below.refl _ _) _
   have hb9 : x0.heap[w6.drew.heap.size]? = some (.cells #[.slice none 0 0] 22 (0, 0)) := by rw [hx0]; exact heap_alloc_new _ _
   obtain ⟨b9, hb9e⟩ : ∃ q, q = w6.drew.heap.size := ⟨_, rfl⟩
   rw [← hx0, ← hb9e]
   rw [← hb9e] at hb9
   have hb9l : b9 < x0.heap.size := (Array.getElem?_eq_some_iff.1 hb9).1
   have hz0 := hq0.size
   have hT := below_then hT hT.size hq0
   have hc8 := cellBelow hq0 hc8
   have hh4 := boxB hh4 hq0
   refine hK.out _ _ ⟨hc8, hh4⟩ (fun hHeld => ?_)
   clear hK K hHeld
   have hHeld : x0.cell? ⟨b8, 0, none⟩ = some (.int .i64 8) ∧ x0.heap[b4]? = some (.cells av 142 (0, 0)) := ⟨hc8, hh4⟩
   refine norm_ (a' := ?_) ?_ ?_; rotate_left; (show Act.put _ (some 9) _ = _; simp only [Act.put, Jq, Jr, Js]; rfl)
   refine one_ (i := 4) (N := some 40) (Jb 8 95) rfl rfl (by kernel_rfl) (by decide) (fun K hK => ?_)
   refine goes_ Tryz.func65 (by kernel_rfl) rfl #[.agg av] (by rfl) rfl rfl (by (try simp only [List.map_toArray, List.map_cons, List.map_nil]); first | done | rfl) ?_
   refine (show Calls Tryz.prog 65 #[.agg av] x0 _ from by rw [HAV.out]; exact size_calls a x0 ((HG6.out.drew).below hq0)).mono ?_
   rintro e x1 ⟨rfl, hq1⟩
   refine ⟨_, rfl, ?_⟩
   have hb9 := boxB hb9 hq1
   have hz1 := hq1.size
   have hT := below_then hT hT.size hq1
   have hc8 := cellBelow hq1 hc8
   have hh4 := boxB hh4 hq1
   refine hK.out _ _ ⟨hc8, hh4⟩ (fun hHeld => ?_)
   clear hK K hHeld
   have hHeld : x1.cell? ⟨b8, 0, none⟩ = some (.int .i64 8) ∧ x1.heap[b4]? = some (.cells av 142 (0, 0)) := ⟨hc8, hh4⟩
   refine norm_ (a' := ?_) ?_ ?_; rotate_left; (show Act.put _ (some 40) _ = _; simp only [Act.put, Jq, Jr, Js]; rfl)
   refine one_ (i := 5) (N := some 41) (Jb 8 127) rfl rfl (by kernel_rfl) (by decide) (fun K hK => ?_)
   refine GDiffer.step_run (w' := x1.alloc (.cells (wordsV (List.replicate 22 0)) 3)) (v := .slice (some ⟨x1.heap.size, 0, none⟩) 20 22) rfl rfl (by simp [execOp, Act.eval, make_page]) ?_
   obtain ⟨x2, hx2⟩ : ∃ q, q = x1.alloc (.cells (wordsV (List.replicate 22 0)) 3) := ⟨_, rfl⟩
   have hq2 : Below x1.heap.size x1 x2 := by rw [hx2]; exact below_alloc (Below.refl _ _) _
   have hbp : x2.heap[x1.heap.size]? = some (.cells (wordsV (List.replicate 22 0)) 3 (0, 0)) := by rw [hx2]; exact heap_alloc_new _ _
   obtain ⟨bp, hbpe⟩ : ∃ q, q = x1.heap.size := ⟨_, rfl⟩
   rw [← hx2, ← hbpe]
   rw [← hbpe] at hbp
   have hbl : bp < x2.heap.size := (Array.getElem?_eq_some_iff.1 hbp).1
   have hb9 := boxB hb9 hq2
   have hz2 := hq2.size
   have hT := below_then hT hT.size hq2
   have hc8 := cellBelow hq2 hc8
   have hh4 := boxB hh4 hq2
   refine hK.out _ _ ⟨hc8, hh4⟩ (fun hHeld => ?_)
   clear hK K hHeld
   have hHeld : x2.cell? ⟨b8, 0, none⟩ = some (.int .i64 8) ∧ x2.heap[b4]? = some (.cells av 142 (0, 0)) := ⟨hc8, hh4⟩
   refine norm_ (a' := ?_) ?_ ?_; rotate_left; (show Act.put _ (some 41) _ = _; simp only [Act.put, Jq, Jr, Js]; rfl)
   refine last_ (i := 7) (N := none) (Jb 8 255) rfl rfl (by kernel_rfl) (by decide) (fun K hK => ?_)
   refine GDiffer.step_skip (w' := x2.setCell ⟨b9, 0, none⟩ (.slice (some ⟨bp, 0, none⟩) 20 22)) rfl rfl (by have hst := store_page (W := x2) (bp := bp) (cellOf hb9 0 _ rfl) (MPut.frozen_of_row hb9 0); simp [execOp, Act.eval, hst]) ?_
   refine hK.out _ _ ?_
   clear hK K
   refine done_ (by kernel_rfl) ?_
   have hne : b9 ≠ bp := by omega
   have hf : Aside0 (Below w6.heap.size w6 (x2.setCell ⟨b9, 0, none⟩ (.slice (some ⟨bp, 0, none⟩) 20 22)) ∧ w6.heap.size ≤ b9 ∧ w6.heap.size ≤ bp ∧ b9 ≠ bp ∧ (x2.setCell ⟨b9, 0, none⟩ (.slice (some ⟨bp, 0, none⟩) 20 22)).heap[b9]? = some (.cells #[.slice (some ⟨bp, 0, none⟩) 20 22] 22 (0, 0)) ∧ (x2.setCell ⟨b9, 0, none⟩ (.slice (some ⟨bp, 0, none⟩) 20 22)).heap[bp]? = some (.cells (wordsV (List.replicate 22 0)) 3 (0, 0))) := ⟨hT.setCell (show w6.heap.size ≤ b9 by omega) _, by omega, by omega, hne, blk_set hb9 0 _, (Below.heap_setCell _ _ _ _ (fun e => hne e.symm)).trans hbp⟩
   clear hb9 hbp hT hc8 hh4 hHeld
   go_wp2
   go_meet
   exact ⟨b9, bp, rfl, hf⟩
 case rest =>
  obtain ⟨b9, bp, rfl, HX⟩ := hcut
  have HH4 := jA (boxB H46.out HX.out.1)
  have HH5 := jA (boxB H56.out HX.out.1)
  have HH8 := jA (boxB H88.out HX.out.1)
  have HBC := jA (below_then HB26.out HB26.out.size HX.out.1)
  have HGC := jA (HG6.out.below HX.out.1)
  have HIC := jA (HI6.out.below HX.out.1)
  clear c8
  go_upto_region 11 with fail
  obtain ⟨wx, hwx⟩ : ∃ q, q = wc.drew := ⟨_, rfl⟩
  have hgx : a.g.In wx := by rw [hwx]; exact HGC.out.drew
  have hx9 : wx.heap[b9]? = some (.cells #[.slice (some ⟨bp, 0, none⟩) 20 22] 22 (0, 0)) := by rw [hwx]; exact HX.out.2.2.2.2.1
  have hx8 : wx.heap[b8]? = some (.cells #[.int .i64 8] 3 (0, 0)) := by rw [hwx]; exact HH8.out
  have hx4 : wx.heap[b4]? = some (.cells av 142 (0, 0)) := by rw [hwx]; exact HH4.out
  have hxp : wx.heap[bp]? = some (.cells (wordsV (List.replicate 22 0)) 3 (0, 0)) := by rw [hwx]; exact HX.out.2.2.2.2.2
  have hbx : Below w.heap.size w wx := by rw [hwx]; exact below_drew HBC.out
  have hix : Ix F wx bi bm [] (.slice none 0 0) 0 := by rw [hwx]; exact HIC.out.below (below_drew (Below.refl _ _))
  have hx5 : wx.heap[b4 + 1]? = some (.cells #[.pointer (some ⟨bi, 0, none⟩)] 135 (0, 0)) := by rw [hwx]; exact HH5.out
  have HBX := jA hbx
  have HIX := jA hix
  have HX5 := jA hx5
  have HXP := jA hxp
  have HGX := jA hgx
  have HX4 := jA hx4
  have HX8 := jA hx8
  have HX9 := jA hx9
  have hsz : b4 = w.heap.size := HN4.out
  have h8w := H8W.out
  have h6s := HB26.out.size
  have n1 := HX.out.2.1
  have n2 := HX.out.2.2.1
  have n3 := HX.out.2.2.2.1
  have hb8l : b8 < w6.heap.size := (Array.getElem?_eq_some_iff.1 H88.out).1
  have hb4l : b4 + 1 < w6.heap.size := (Array.getElem?_eq_some_iff.1 H56.out).1
  have HNN := jA (show b8 ≠ bp ∧ b4 ≠ bp ∧ b4 + 1 ≠ bp ∧ b9 ≠ bp ∧ w.heap.size ≤ bp ∧ w.heap.size ≤ b9 from ⟨by omega, by omega, by omega, n3, by omega, by omega⟩)
  clear hbx hix hx5 hxp hgx hsz h8w h6s n1 n2 n3 hb8l hb4l
  refine start_ (n := 11) (S := fun w' => w'.heap[b9]? = some (.cells #[.slice (some ⟨bp, 0, none⟩) 20 22] 22 (0, 0)) ∧ w'.heap[b8]? = some (.cells #[.int .i64 8] 3 (0, 0)) ∧ w'.heap[b4]? = some (.cells av 142 (0, 0))) (ds := []) (Jb 11 0) (by kernel_rfl) rfl (by kernel_rfl) (by rw [← hwx]; exact ⟨hx9, hx8, hx4⟩) (fun hHeld => ?_)
  rw [← hwx] at hHeld ⊢
  clear hwx
  refine Jk 0 42 (Jb 11 1) rfl rfl hHeld (.inl ⟨by rfl, by rintro w' ⟨s0, s1, s2⟩; have cc := cellOf s0 0 (.slice (some ⟨bp, 0, none⟩) 20 22) rfl; go_simp; with_reducible rfl⟩) ?_
  refine Jp 1 43 (Jb 11 3) rfl rfl ?_
  refine Jk 2 44 (Jb 11 7) rfl rfl hHeld (.inl ⟨by rfl, by rintro w' ⟨s0, s1, s2⟩; have cc := cellOf s1 0 (.int .i64 8) rfl; go_simp; with_reducible rfl⟩) ?_
  refine Jp 3 45 (Jb 11 15) rfl rfl ?_
  refine Jk 4 46 (Jb 11 31) rfl rfl hHeld (.inl ⟨by rfl, by rintro w' ⟨s0, s1, s2⟩; have cc := (cellOf s2 3 (.slice a.A3 2 a.c3) (by rw [HAV.out]; rfl)); go_simp; with_reducible rfl⟩) ?_
  refine Jp 6 48 (Jb 11 95) rfl rfl ?_
  refine Jk 7 49 (Jb 11 223) rfl rfl hHeld (.inl ⟨by rfl, by rintro w' ⟨s0, s1, s2⟩; have cc := (cellOf s2 4 (.slice a.A4 1 a.c4) (by rw [HAV.out]; rfl)); go_simp; with_reducible rfl⟩) ?_
  refine one_ (i := 5) (N := some 47) (Jb 11 255) rfl rfl (by kernel_rfl) (by decide) (fun K hK => ?_)
  refine goes_ Tryz.func66 (by kernel_rfl) rfl #[.slice a.A3 2 a.c3] (by rfl) rfl rfl (by (try simp only [List.map_toArray, List.map_cons, List.map_nil]); first | done | rfl) ?_
  refine (class3 a wx HGX.out).mono ?_
  rintro e y0 ⟨rfl, hq0⟩
  refine ⟨_, rfl, ?_⟩
  have H9y0 := boxB hx9 hq0
  have H8y0 := boxB hx8 hq0
  have H4y0 := boxB hx4 hq0
  have HQ0 := jA hq0
  refine hK.out _ _ ⟨H9y0, H8y0, H4y0⟩ (fun hHeld => ?_)
  clear hK K hq0
  refine norm_ (a' := ?_) ?_ ?_; rotate_left; (show Act.put _ (some 47) _ = _; simp only [Act.put, Jq, Jr, Js]; rfl)
  refine one_ (i := 8) (N := some 50) (Jb 11 511) rfl rfl (by kernel_rfl) (by decide) (fun K hK => ?_)
  refine goes_ Tryz.func66 (by kernel_rfl) rfl #[.slice a.A4 1 a.c4] (by rfl) rfl rfl (by (try simp only [List.map_toArray, List.map_cons, List.map_nil]); first | done | rfl) ?_
  refine (class4 a y0 (HGX.out.below HQ0.out)).mono ?_
  rintro e y1 ⟨rfl, hq1⟩
  refine ⟨_, rfl, ?_⟩
  have H9y1 := boxB H9y0 hq1
  have H8y1 := boxB H8y0 hq1
  have H4y1 := boxB H4y0 hq1
  have HQ1 := jA hq1
  refine hK.out _ _ ⟨H9y1, H8y1, H4y1⟩ (fun hHeld => ?_)
  clear hK K hq1
  refine norm_ (a' := ?_) ?_ ?_; rotate_left; (show Act.put _ (some 50) _ = _; simp only [Act.put, Jq, Jr, Js]; rfl)
  refine one_ (i := 9) (N := some 51) (Jb 11 1023) rfl rfl (by kernel_rfl) (by decide) (fun K hK => ?_)
  refine GDiffer.step_run (w' := y1.alloc (.cells #[.int .i64 5, .int .i64 8, .int .i64 2, .int .i64 1] 3)) (v := .slice (some ⟨y1.heap.size, 0, none⟩) 4 4) rfl rfl (by go_simp) ?_
  have hq2 : Below y1.heap.size y1 (y1.alloc (.cells #[.int .i64 5, .int .i64 8, .int .i64 2, .int .i64 1] 3)) := below_alloc (Below.refl _ _) _
  have H9y2 := boxB H9y1 hq2
  have H8y2 := boxB H8y1 hq2
  have H4y2 := boxB H4y1 hq2
  have HQ2 := jA hq2
  refine hK.out _ _ ⟨H9y2, H8y2, H4y2⟩ (fun hHeld => ?_)
  clear hK K hq2
  refine norm_ (a' := ?_) ?_ ?_; rotate_left; (show Act.put _ (some 51) _ = _; simp only [Act.put, Jq, Jr, Js]; rfl)
  refine one_ (i := 10) (N := some 52) (Jb 11 2047) rfl rfl (by kernel_rfl) (by decide) (fun K hK => ?_)
  have hpz := boxB (boxB (boxB HXP.out HQ0.out) HQ1.out) HQ2.out
  obtain ⟨y3, hrun, hp3, ho3⟩ := copy_hdr y1 bp hpz
  refine GDiffer.step_run (w' := y3) (v := .int .i64 4) rfl rfl (by simp [execOp, Act.eval, resolve, invoke, builtin, hrun]) ?_
  have H9y3 := (ho3.at_ b9 HNN.out.2.2.2.1).trans H9y2
  have H8y3 := (ho3.at_ b8 HNN.out.1).trans H8y2
  have H4y3 := (ho3.at_ b4 HNN.out.2.1).trans H4y2
  refine hK.out _ _ ⟨H9y3, H8y3, H4y3⟩ (fun hHeld => ?_)
  clear hK K hrun hpz
  refine norm_ (a' := ?_) ?_ ?_; rotate_left; (show Act.put _ (some 52) _ = _; simp only [Act.put, Jq, Jr, Js]; rfl)
  refine done_ (by kernel_rfl) ?_
  have hby : Below w.heap.size w (y1.alloc (.cells #[.int .i64 5, .int .i64 8, .int .i64 2, .int .i64 1] 3)) := below_then (below_then (below_then HBX.out HBX.out.size HQ0.out) (below_then HBX.out HBX.out.size HQ0.out).size HQ1.out) (below_then (below_then HBX.out HBX.out.size HQ0.out) (below_then HBX.out HBX.out.size HQ0.out).size HQ1.out).size HQ2.out
  have hwbp : w.heap.size ≤ bp := HNN.out.2.2.2.2.1
  have hky : Keep (FL w bi bm) w y3 := (((Keep.refl (FL w bi bm) w).below hby)).trans ⟨by rw [ho3.size]; exact Nat.le_refl _, fun k hk hF => ho3.at_ k (by have := hF.1; omega), ho3.ext⟩
  have hivar := (HI.out.below hby).var
  have himap := (HI.out.below hby).map
  have hbi : bi < w.heap.size := (Array.getElem?_eq_some_iff.1 HI.out.var).1
  have hbm : bm < w.heap.size := HI.out.map.lt
  have hiy : Ix (FL y3 bi bm) y3 bi bm [] (.slice none 0 0) 0 := ⟨(ho3.at_ bi (by omega)).trans hivar, himap.move (ho3.at_ bm (by omega)), Kd.R_nil _ _ _ _ _, HI.out.ne, fun h => h.2.1 rfl, fun h => h.2.2 rfl, fun k h => h.1⟩
  have hn4 : b4 = w.heap.size := HN4.out
  have l9 : b9 < y3.heap.size := (Array.getElem?_eq_some_iff.1 H9y3).1
  have l8 : b8 < y3.heap.size := (Array.getElem?_eq_some_iff.1 H8y3).1
  have l4 : b4 < y3.heap.size := (Array.getElem?_eq_some_iff.1 H4y3).1
  have lp : bp < y3.heap.size := (Array.getElem?_eq_some_iff.1 hp3).1
  have H5y2 := boxB (boxB (boxB HX5.out HQ0.out) HQ1.out) HQ2.out
  have H5y3 := (ho3.at_ (b4 + 1) HNN.out.2.2.1).trans H5y2
  have l5 : b4 + 1 < y3.heap.size := (Array.getElem?_eq_some_iff.1 H5y3).1
  have h8w := H8W.out
  have h9w : w.heap.size ≤ b9 := HNN.out.2.2.2.2.2
  have hps : Pst (FL y3 bi bm) y3 bi bm (b4 + 1) b8 b9 bp [5, 8, 2, 1, 0, 0, 0, 0, 0, 0, 0, 0, 0, 0, 0, 0, 0, 0, 0, 0, 0, 0] [] := ⟨H5y3, H8y3, H9y3, hp3, ⟨_, _, hiy⟩, ⟨l5, by omega, by omega⟩, ⟨l8, by omega, by omega⟩, ⟨l9, by omega, by omega⟩, ⟨lp, by omega, by omega⟩, HNN.out.2.2.1, HNN.out.1, HNN.out.2.2.2.1, rfl⟩
  have hlt : w.heap.size ≤ y3.heap.size := hky.size
  have hgo : ∀ W, Keep (FP (FL y3 bi bm) bp) y3 W → Keep (FL w bi bm) w W := fun W hk => hky.trans (hk.less (fun k h => ⟨⟨by have := h.1; omega, h.2⟩, by have := h.1; omega⟩))
  have hge : ∀ W, Keep (fun k => FP (FL y3 bi bm) bp k ∧ k ≠ b9) y3 W → Keep (FL w bi bm) w W ∧ a.g.In W := fun W hk => by
   have h1 : Keep (FL w bi bm) w W := hky.trans (hk.less (fun k h => ⟨⟨⟨by have := h.1; omega, h.2⟩, by have := h.1; omega⟩, by have := h.1; omega⟩))
   exact ⟨h1, in_keep HI.out HG.out h1⟩
  have HGE := jA hge
  have HGL := jA hlt
  clear hge
  have hgg : ∀ W, Keep (FP (FL y3 bi bm) bp) y3 W → a.g.In W := fun W hk => in_keep HI.out HG.out (hgo W hk)
  have hf4 : FL y3 bi bm b4 := ⟨l4, by omega, by omega⟩
  have n4p : b4 ≠ bp := HNN.out.2.1
  have HP := jA (put29 a (FL y3 bi bm) y3 bi bm b4 (b4 + 1) b8 b9 bp hps hgg)
  have HGG := jA hgg
  have HGO := jA hgo
  have HF4 := jA (And.intro hf4 n4p)
  have HB4Y := jA H4y3
  have HF9 := jA (And.intro (show FL y3 bi bm b9 from ⟨l9, by omega, by omega⟩) (And.intro HNN.out.2.2.2.1 (show FL y3 bi bm bp from ⟨lp, by omega, by omega⟩)))
  have HWBP := jA hwbp
  have e0 := cellOf H4y3 0 (.slice a.A0 1 a.c0) (by rw [HAV.out]; rfl)
  have HAVV := jA (show av = a.v from HAV.out)
  clear hby hwbp hky hivar himap hbi hbm hiy hn4 l9 l8 l4 lp H5y2 H5y3 l5 h8w h9w hps hlt hgo hgg hf4 n4p H9y3 H8y3 H4y3 hp3 ho3 H9y2 H8y2 H4y2 H9y1 H8y1 H4y1 H9y0 H8y0 H4y0 hx9 hx8 hx4
  go_upto_region 14 with (first | (go_at_call 67; (refine HP.out.mono ?_); rintro e z1 ⟨rfl, hP1, hK1⟩; have HP1 := jA hP1; have HK1 := jA hK1; clear hP1 hK1 e0))
  have H4z1 := kb HK1.out ⟨HF4.out.1, HF4.out.2⟩ HB4Y.out
  have e1 := cellOf H4z1 1 (.slice a.A1 2 a.c1) (by rw [HAV.out]; rfl)
  have HPP := jA (put30 a (FL y3 bi bm) z1 bi bm b4 (b4 + 1) b8 b9 bp HP1.out (fun W hk => HGG.out W (HK1.out.trans hk)) (by rw [HAV.out] at H4z1; exact H4z1) HF4.out.1 HF4.out.2)
  have HB4Z := jA H4z1
  clear H4z1
  go_upto_region 15 with (first | (go_at_call 67; (refine HPP.out.mono ?_); rintro e z2 ⟨rfl, hP2, hK2⟩; have HP2 := jA hP2; have HK2 := jA (HK1.out.trans hK2); have HB4Y2 := jA (kb hK2 ⟨HF4.out.1, HF4.out.2⟩ HB4Z.out); clear hP2 hK2 e1))
  have H4z2 := HB4Y2.out
  have e2 := cellOf H4z2 2 (.slice a.A2 1 a.c2) (by rw [HAV.out]; rfl)
  have HPQ := jA (put31 a (FL y3 bi bm) z2 bi bm b4 (b4 + 1) b8 b9 bp HP2.out (fun W hk => HGG.out W (HK2.out.trans hk)) (by rw [HAV.out] at H4z2; exact H4z2) HF4.out.1 HF4.out.2)
  clear H4z2
  go_upto_region 16 with (first | (go_at_call 67; (refine HPQ.out.mono ?_); rintro e z3 ⟨rfl, hP3, hK3⟩; have HP3 := jA hP3; have HK3 := jA (HK2.out.trans hK3); have HB4Y3 := jA (kb hK3 ⟨HF4.out.1, HF4.out.2⟩ HB4Y2.out); clear hP3 hK3 e2))
  have e5 := cellOf HB4Y3.out 5 (.slice a.A5 2 a.c5) (by rw [HAV.out]; rfl)
  clear HP HPP HPQ HP1 HP2 HK1 HK2 HB4Z HB4Y HB4Y2
  go_wp2
  have hpen : Pen (FL y3 bi bm) z3 bi bm b9 bp 20 [5, 8, 2, 1, 0, 0, 7, 1, 0, 0, 13, 2, 0, 0, 0, 0, 18, 1, 9, 1, 0, 0] := ⟨HP3.out.p, HP3.out.pg, HP3.out.ix⟩
  have HPEN := jA (And.intro hpen (HK3.out.less (G := fun k => FP (FL y3 bi bm) bp k ∧ k ≠ b9) (fun k h => h.1)))
  clear hpen e5
  go_loopw [71] (fun u wr => (u = .int .i64 0 ∧ Aside0 (Pen (FL y3 bi bm) wr bi bm b9 bp 20 [5, 8, 2, 1, 0, 0, 7, 1, 0, 0, 13, 2, 0, 0, 0, 0, 18, 1, 9, 1, 0, 0] ∧ Keep (fun k => FP (FL y3 bi bm) bp k ∧ k ≠ b9) y3 wr)) ∨ (u = .int .i64 1 ∧ Aside0 (Pen (FL y3 bi bm) wr bi bm b9 bp 21 [5, 8, 2, 1, 0, 0, 7, 1, 0, 0, 13, 2, 0, 0, 0, 0, 18, 1, 9, 1, 1, 0] ∧ Keep (fun k => FP (FL y3 bi bm) bp k ∧ k ≠ b9) y3 wr)) ∨ (u = .int .i64 2 ∧ Aside0 (Pen (FL y3 bi bm) wr bi bm b9 bp 22 [5, 8, 2, 1, 0, 0, 7, 1, 0, 0, 13, 2, 0, 0, 0, 0, 18, 1, 9, 1, 1, 0] ∧ Keep (fun k => FP (FL y3 bi bm) bp k ∧ k ≠ b9) y3 wr))) (fun u _ => 2 - (intOf u).toNat)
  case atStart => exact .inl ⟨rfl, HPEN⟩
  case round =>
   rcases hrel with ⟨rfl, HR⟩ | ⟨rfl, HR⟩ | ⟨rfl, HR⟩
   ·obtain ⟨ad, Ar, cr, eA, hx1, hl1, hC1⟩ := PG.at_L3 (xs := [[1], [0]]) (HGE.out _ HR.out.2).2.h5 0 (by decide) (by show (0 : Int) < ((2 : Nat) : Int); decide)
    have eA' : a.A5 = some ad := eA
    have hx1' : wr.cell? ad = some (.slice Ar 1 cr) := by
     have ea : ad.add 0 = ad := by simp [Addr.add]
     rw [← ea]; exact hx1
    obtain ⟨adr, eR, hx2⟩ := Kd.at_int (xs := [1]) hC1 0 (by decide) (by show (0 : Int) < ((1 : Nat) : Int); decide)
    have hx2' : wr.cell? adr = some (.int .u16 1) := by
     have ea : adr.add 0 = adr := by simp [Addr.add]
     rw [← ea]; exact hx2
    clear eA hx1 hx2 hl1 hC1
    subst eR
    rw [eA'] at *
    clear eA'
    go_wp2
    obtain ⟨wa, hwa⟩ : ∃ wa : World, wa = wr := ⟨_, rfl⟩
    rw [← hwa] at hx1' hx2' HR ⊢
    clear hwa
    go_loopw [77] (fun u wi => (u = .int .i64 0 ∧ wi = wa) ∨ (u = .int .i64 1 ∧ Aside0 (Pen (FL y3 bi bm) wi bi bm b9 bp 21 [5, 8, 2, 1, 0, 0, 7, 1, 0, 0, 13, 2, 0, 0, 0, 0, 18, 1, 9, 1, 1, 0] ∧ Keep (fun k => FP (FL y3 bi bm) bp k ∧ k ≠ b9) y3 wi))) (fun u _ => 1 - (intOf u).toNat)
    case atStart => exact .inl ⟨rfl, rfl⟩
    case round =>
     rcases hrel with ⟨rfl, hwi⟩ | ⟨rfl, HS⟩
     ·rw [hwi]
      clear hwi
      have c9 := cellOf HR.out.1.p 0 (.slice (some ⟨bp, 0, none⟩) 20 22) rfl
      have happ := app_page wa bp 20 [5, 8, 2, 1, 0, 0, 7, 1, 0, 0, 13, 2, 0, 0, 0, 0, 18, 1, 9, 1, 0, 0] 1 HR.out.1.pg rfl (by decide)
      have hb1 := below_alloc (Below.refl _ wa) (.cells #[.int .i64 1] 3)
      have hne9 : b9 ≠ bp := HF9.out.2.1
      have h9a : ((wa.alloc (.cells #[.int .i64 1] 3)).setCell ⟨bp, 20, none⟩ (.int .i64 1)).heap[b9]? = _ := (Below.heap_setCell _ _ _ _ hne9).trans (boxB HR.out.1.p hb1)
      have d9 := cellOf h9a 0 (.slice (some ⟨bp, 0, none⟩) 20 22) rfl
      have g9 := MPut.frozen_of_row h9a 0
      have hpa : ((wa.alloc (.cells #[.int .i64 1] 3)).setCell ⟨bp, 20, none⟩ (.int .i64 1)).heap[bp]? = some (.cells (wordsV [5, 8, 2, 1, 0, 0, 7, 1, 0, 0, 13, 2, 0, 0, 0, 0, 18, 1, 9, 1, 1, 0]) 3 (0, 0)) := by
       have := blk_set (boxB HR.out.1.pg hb1) 20 (.int .i64 1)
       simpa [wordsV] using this
      have hia : IxE (FL y3 bi bm) ((wa.alloc (.cells #[.int .i64 1] 3)).setCell ⟨bp, 20, none⟩ (.int .i64 1)) bi bm [bOpen, bAnn, bBob, bDoor] := by
       obtain ⟨v, n, hix⟩ := HR.out.1.ix
       exact ⟨v, n, (hix.below hb1).far HF9.out.2.2 _⟩
      have hka : Keep (fun k => FP (FL y3 bi bm) bp k ∧ k ≠ b9) y3 ((wa.alloc (.cells #[.int .i64 1] 3)).setCell ⟨bp, 20, none⟩ (.int .i64 1)) := (HR.out.2.below hb1).setCell (fun h => h.1.2 rfl) _
      obtain ⟨wb, hwb⟩ : ∃ q, q = (wa.alloc (.cells #[.int .i64 1] 3)).setCell ⟨bp, 20, none⟩ (.int .i64 1) := ⟨_, rfl⟩
      rw [← hwb] at happ h9a d9 g9 hpa hia hka
      have HAPP := jA happ
      have H9A := jA h9a
      have HPA := jA hpa
      have HIA := jA hia
      have HKA := jA hka
      clear happ h9a hpa hia hka hwb hb1
      go_wp2_with (first | ((with_reducible refine gate_builtin (b := .append) (xs := #[.tmp 81, .tmp 84]) rfl ?_); refine Kd.event_run rfl (w1 := wb) (v := .slice (some ⟨bp, 0, none⟩) 21 22) (by have hh := HAPP.out; simp [execOp, Act.eval, resolve, invoke, builtin, hh]) ?_))
      go_roundw
      case rel =>
       refine .inr ⟨rfl, ⟨⟨?_, ?_, ?_⟩, ?_⟩⟩
       ·exact blk_set H9A.out 0 (.slice (some ⟨bp, 0, none⟩) 21 22)
       ·exact (Below.heap_setCell _ _ _ _ (fun e => hne9 e.symm)).trans HPA.out
       ·obtain ⟨v, n, hix⟩ := HIA.out
        exact ⟨v, n, hix.far HF9.out.1 _⟩
       ·exact HKA.out.setCell (fun h => h.2 rfl) _
      case measure => simp [intOf]
     ·go_wp2
      go_roundw
      case rel => exact .inr (.inl ⟨rfl, HS⟩)
      case measure => simp [intOf]
   ·obtain ⟨ad, Ar, cr, eA, hx1, hl1, hC1⟩ := PG.at_L3 (xs := [[1], [0]]) (HGE.out _ HR.out.2).2.h5 1 (by decide) (by show (1 : Int) < ((2 : Nat) : Int); decide)
    have eA' : a.A5 = some ad := eA
    have hx1' : wr.cell? ⟨ad.block, ad.off + 1, none⟩ = some (.slice Ar 1 cr) := by
     have ea : ad.add 1 = ⟨ad.block, ad.off + 1, none⟩ := by simp [Addr.add]
     rw [← ea]; exact hx1
    obtain ⟨adr, eR, hx2⟩ := Kd.at_int (xs := [0]) hC1 0 (by decide) (by show (0 : Int) < ((1 : Nat) : Int); decide)
    have hx2' : wr.cell? adr = some (.int .u16 0) := by
     have ea : adr.add 0 = adr := by simp [Addr.add]
     rw [← ea]; exact hx2
    clear eA hx1 hx2 hl1 hC1
    subst eR
    rw [eA'] at *
    clear eA'
    go_wp2
    obtain ⟨wa, hwa⟩ : ∃ wa : World, wa = wr := ⟨_, rfl⟩
    rw [← hwa] at hx1' hx2' HR ⊢
    clear hwa
    go_loopw [77] (fun u wi => (u = .int .i64 0 ∧ wi = wa) ∨ (u = .int .i64 1 ∧ Aside0 (Pen (FL y3 bi bm) wi bi bm b9 bp 22 [5, 8, 2, 1, 0, 0, 7, 1, 0, 0, 13, 2, 0, 0, 0, 0, 18, 1, 9, 1, 1, 0] ∧ Keep (fun k => FP (FL y3 bi bm) bp k ∧ k ≠ b9) y3 wi))) (fun u _ => 1 - (intOf u).toNat)
    case atStart => exact .inl ⟨rfl, rfl⟩
    case round =>
     rcases hrel with ⟨rfl, hwi⟩ | ⟨rfl, HS⟩
     ·rw [hwi]
      clear hwi
      have c9 := cellOf HR.out.1.p 0 (.slice (some ⟨bp, 0, none⟩) 21 22) rfl
      have happ := app_page wa bp 21 [5, 8, 2, 1, 0, 0, 7, 1, 0, 0, 13, 2, 0, 0, 0, 0, 18, 1, 9, 1, 1, 0] 0 HR.out.1.pg rfl (by decide)
      have hb1 := below_alloc (Below.refl _ wa) (.cells #[.int .i64 0] 3)
      have hne9 : b9 ≠ bp := HF9.out.2.1
      have h9a : ((wa.alloc (.cells #[.int .i64 0] 3)).setCell ⟨bp, 21, none⟩ (.int .i64 0)).heap[b9]? = _ := (Below.heap_setCell _ _ _ _ hne9).trans (boxB HR.out.1.p hb1)
      have d9 := cellOf h9a 0 (.slice (some ⟨bp, 0, none⟩) 21 22) rfl
      have g9 := MPut.frozen_of_row h9a 0
      have hpa : ((wa.alloc (.cells #[.int .i64 0] 3)).setCell ⟨bp, 21, none⟩ (.int .i64 0)).heap[bp]? = some (.cells (wordsV [5, 8, 2, 1, 0, 0, 7, 1, 0, 0, 13, 2, 0, 0, 0, 0, 18, 1, 9, 1, 1, 0]) 3 (0, 0)) := by
       have := blk_set (boxB HR.out.1.pg hb1) 21 (.int .i64 0)
       simpa [wordsV] using this
      have hia : IxE (FL y3 bi bm) ((wa.alloc (.cells #[.int .i64 0] 3)).setCell ⟨bp, 21, none⟩ (.int .i64 0)) bi bm [bOpen, bAnn, bBob, bDoor] := by
       obtain ⟨v, n, hix⟩ := HR.out.1.ix
       exact ⟨v, n, (hix.below hb1).far HF9.out.2.2 _⟩
      have hka : Keep (fun k => FP (FL y3 bi bm) bp k ∧ k ≠ b9) y3 ((wa.alloc (.cells #[.int .i64 0] 3)).setCell ⟨bp, 21, none⟩ (.int .i64 0)) := (HR.out.2.below hb1).setCell (fun h => h.1.2 rfl) _
      obtain ⟨wb, hwb⟩ : ∃ q, q = (wa.alloc (.cells #[.int .i64 0] 3)).setCell ⟨bp, 21, none⟩ (.int .i64 0) := ⟨_, rfl⟩
      rw [← hwb] at happ h9a d9 g9 hpa hia hka
      have HAPP := jA happ
      have H9A := jA h9a
      have HPA := jA hpa
      have HIA := jA hia
      have HKA := jA hka
      clear happ h9a hpa hia hka hwb hb1
      go_wp2_with (first | ((with_reducible refine gate_builtin (b := .append) (xs := #[.tmp 81, .tmp 84]) rfl ?_); refine Kd.event_run rfl (w1 := wb) (v := .slice (some ⟨bp, 0, none⟩) 22 22) (by have hh := HAPP.out; simp [execOp, Act.eval, resolve, invoke, builtin, hh]) ?_))
      go_roundw
      case rel =>
       refine .inr ⟨rfl, ⟨⟨?_, ?_, ?_⟩, ?_⟩⟩
       ·exact blk_set H9A.out 0 (.slice (some ⟨bp, 0, none⟩) 22 22)
       ·exact (Below.heap_setCell _ _ _ _ (fun e => hne9 e.symm)).trans HPA.out
       ·obtain ⟨v, n, hix⟩ := HIA.out
        exact ⟨v, n, hix.far HF9.out.1 _⟩
       ·exact HKA.out.setCell (fun h => h.2 rfl) _
      case measure => simp [intOf]
     ·go_wp2
      go_roundw
      case rel => exact .inr (.inr ⟨rfl, HS⟩)
      case measure => simp [intOf]
   ·have c9 := cellOf HR.out.1.p 0 (.slice (some ⟨bp, 0, none⟩) 22 22) rfl
    go_wp2
    go_ret2
    obtain ⟨v, n, hix⟩ := HR.out.1.ix
    refine ⟨bp, rfl, HR.out.1.pg, HWBP.out, ⟨v, n, hix.widen (fun h => h.2.1 rfl) (fun h => h.2.2 rfl) (fun k hk h => ?_) (fun k h => Nat.lt_of_lt_of_le h.1 (HGE.out _ HR.out.2).1.size)⟩, (HGE.out _ HR.out.2).1⟩
    exact (hix.row.1 k hk).2.2 ⟨Nat.lt_of_lt_of_le h.1 HGL.out, h.2⟩
end Go.Proofs.YtdgkppldopiaoaaGreat.RLay
/- house(5, one("ann")) (gatehouselaw23), walked. -/
namespace Go.Proofs.YtdgkppldopiaoaaGreat.RHouse
open Go.RowKit YtdgkppldopiaoaaGreatW.PrintWords YtdgkppldopiaoaaGreatW.PrintLast YtdgkppldopiaoaaGreatW.PrintMore BMap BRow GDiffer GValid MLines MPol MPut RMem RCells REpoch RMach RNew RCput RRun RIndex RHcheck ROne RPage RPput RLay Go.Maps
open PG
set_option maxHeartbeats 2000000
set_option maxRecDepth 100000
theorem app_nil (W : World) (ty : TypeId) (a : Addr) (c : Nat) (news : List Int) (h0 : 0 < news.length) (hs : news.length ≤ 1000) (hc : ∀ j x, news[j]? = some x → W.cell? (a.add j) = some (.int .i64 x)) :
  ∃ g cap w', (Builtin.append_ #[22, 22] ty #[.slice none 0 0, .slice (some a) news.length c]).run Tryz.prog W = .ok (.slice (some ⟨g, 0, none⟩) news.length cap) w' ∧ (∀ j x, news[j]? = some x → w'.cell? ⟨g, j, none⟩ = some (.int .i64 x)) ∧ W.heap.size ≤ g ∧ Below W.heap.size W w' := by
 obtain ⟨i, hi, hz⟩ := Option.map_eq_some_iff.1 (show (Tryz.prog.info? 3).map (fun i => (i.zero, i.size, i.bytes)) = some (some (.int .i64 0), 1, 8) from PG.info3)
 simp only [Prod.mk.injEq] at hz
 obtain ⟨v', w', hrun, hown, hg, hnil⟩ := run_append_own (P := Tryz.prog) W W.heap.size 22 ty 3 i (.int .i64 0) 1 8 Tryz.underlying22 hi hz.1 hz.2.1 hz.2.2 rfl (by decide) (.slice none 0 0) 0 [] ⟨rfl, .inl ⟨rfl, rfl⟩⟩ a news.length c (news.map (Value.int .i64)) (by simp) (fun j u hu => by
   rw [List.getElem?_map] at hu
   obtain ⟨x, hx, rfl⟩ := Option.map_eq_some_iff.1 hu
   exact hc j x hx) (by intro u hu; obtain ⟨x, _, rfl⟩ := List.mem_map.1 hu; rfl) (by unfold maxLen; omega) (by omega) (Nat.le_refl _)
 rw [Nat.zero_add, List.nil_append] at hown
 rcases hown.2 with ⟨h1, h2⟩ | ⟨g, cap, cur, rfl, hb, hgc, _⟩
 ·omega
 ·refine ⟨g, cap, w', hrun, fun j x hx => ?_, hb, ⟨hg.os, hg.tape, hg.output, hg.size, fun k hk => hg.block k hk (fun e => by cases e)⟩⟩
  have hj : j < news.length := (List.getElem?_eq_some_iff.1 hx).1
  rw [hown.cellAt j (by omega), List.getElem?_map, hx]
  rfl
theorem app_niln (W : World) (ty : TypeId) (a : Addr) (c n : Nat) (news : List Int) (hn : news.length = n) (h0 : 0 < n) (hs : n ≤ 1000) (hc : ∀ j x, news[j]? = some x → W.cell? (a.add j) = some (.int .i64 x)) :
  ∃ g cap w', (Builtin.append_ #[22, 22] ty #[.slice none 0 0, .slice (some a) n c]).run Tryz.prog W = .ok (.slice (some ⟨g, 0, none⟩) n cap) w' ∧ (∀ j x, news[j]? = some x → w'.cell? ⟨g, j, none⟩ = some (.int .i64 x)) ∧ W.heap.size ≤ g ∧ Below W.heap.size W w' := by
 subst hn
 exact app_nil W ty a c news h0 hs hc
theorem app_one (W : World) (ty : TypeId) (x : Int) : ∃ g cap w', (Builtin.append_ #[22, 22] ty #[.slice none 0 0, .slice (some ⟨W.heap.size, 0, none⟩) 1 1]).run Tryz.prog (W.alloc (.cells #[.int .i64 x] 3)) = .ok (.slice (some ⟨g, 0, none⟩) 1 cap) w' ∧ w'.cell? ⟨g, 0, none⟩ = some (.int .i64 x) ∧ W.heap.size ≤ g ∧ Below W.heap.size W w' := by
 obtain ⟨g, cap, w', h1, h2, h3, h4⟩ := app_niln (W.alloc (.cells #[.int .i64 x] 3)) ty ⟨W.heap.size, 0, none⟩ 1 1 [x] rfl (by decide) (by decide) (fun j y hj => by
  have := cells7 (vs := [.int .i64 x]) (heap_alloc_new W (.cells #[.int .i64 x] 3)) j (.int .i64 y)
  refine this ?_
  have hj0 : j = 0 := by have := (List.getElem?_eq_some_iff.1 hj).1; simpa using this
  subst hj0
  cases hj; rfl)
 have hb := below_alloc (Below.refl _ W) (.cells #[.int .i64 x] 3)
 exact ⟨g, cap, w', h1, h2 0 x rfl, Nat.le_trans hb.size h3, below_then hb hb.size h4⟩
theorem keep_below {w W : World} {B bi bm : Nat} (h : Keep (FL w bi bm) w W) (hB : B ≤ w.heap.size) (hi : B ≤ bi) (hm : B ≤ bm) : Below B w W := ⟨h.ext.1, h.ext.2.1, h.ext.2.2, h.size, fun k hk => h.at_ k (by omega) ⟨by omega, by omega, by omega⟩⟩
abbrev hzV (bi : Nat) (vP vS : Value) : Array Value := #[.pointer none, .pointer none, .pointer none, .pointer (some ⟨bi, 0, none⟩), vP, vS]
abbrev L4 : List ByteArray := [bOpen, bAnn, bBob, bDoor]
structure LpB (w0 w : World) (bh bi bmp g6 gP : Nat) (vP vS : Value) : Prop where
 house : w.heap[bh]? = some (.cells (hzV bi vP vS) 138 (0, 0))
 words : ∀ j x, pageW[j]? = some x → w.cell? ⟨g6, j, none⟩ = some (.int .i64 x)
 pages : w.cell? ⟨gP, 0, none⟩ = some (.int .i64 8)
 ix : ∃ F v n, F bh ∧ Ix F w bi bmp L4 v n
 below : Below w0.heap.size w0 w
theorem store_sl {W : World} {A : Option Addr} {n c : Nat} {old : Value} {a : Addr} (hc : W.cell? a = some old) (hf : W.frozen? a = false) :
  (Instr.storeAt 22 (.pointer (some a)) (.slice A n c)).run Tryz.prog W = .ok () (W.setCell a (.slice A n c)) := by
 have hu := Tryz.underlying22
 simp [Instr.storeAt, Instr.sureAddr, go_sem, hc, hf, hu]
theorem compileA (b : Nat) (w : World) (h : (p1 b).In w) :
  Calls Tryz.prog 49 #[.agg (pV b)] w fun e w' => ∃ a : Ad, e = .returned (.agg a.v) ∧ a.g.In w' ∧ Below w.heap.size w w' :=
 (compile1 b w h).mono fun e w' ⟨g, h1, h2, h3, h4⟩ => by
  obtain ⟨a, rfl⟩ := G1.ad h3
  exact ⟨a, h1, h2, h4⟩
def wsAt (k : Nat) : List Int := List.replicate 8 0 ++ pageW.take k ++ List.replicate (22 - k) 0
theorem ws_next : ∀ k : Fin 22, stW (wsAt k) (8 + (k : Nat)) (pageW.getD k 0) = wsAt (k + 1) ∧ lkE (wsAt k) (8 + (k : Nat)) = 0 := by decide +kernel
def W30 : List Int := [8, 1, 0, 0, 0, 0, 0, 0] ++ pageW
theorem ws_end : stW (stW (wsAt 22) 0 8) 1 1 = W30 ∧ lkE (wsAt 22) 0 = 0 ∧ lkE (stW (wsAt 22) 0 8) 1 = 0 := by decide +kernel
structure Hs (w0 w : World) (bh bm bw bs bsite bi bmp : Nat) (vP vS tv : Value) (tr : List S115) : Prop where
 house : HouseAt w bh bm bs bsite bi vP vS
 site : SiteAt w bsite bm bs 0 0
 slots : SlotsAt w bs bm 1 4 2
 mem : Mem (fun k => k < w.heap.size ∧ k ≠ bm ∧ k ≠ bw ∧ some k ≠ tv.ownBlock) w bm bw W30 tr 0 tv
 short : tr.length = 24
 ix : ∃ F v n, Ix F w bi bmp L4 v n
 below : Below w0.heap.size w0 w
 d1 : bs ≠ bsite
 d2 : bsite ≠ bm ∧ bsite ≠ bw ∧ some bsite ≠ tv.ownBlock
 d3 : bs ≠ bm ∧ bs ≠ bw ∧ some bs ≠ tv.ownBlock
 d4 : bh ≠ bm ∧ bh ≠ bw ∧ some bh ≠ tv.ownBlock
 lo : ∀ k, k < w0.heap.size → k ≠ bm ∧ k ≠ bw ∧ some k ≠ tv.ownBlock
theorem st_step (F : Nat → Prop) (w : World) (bm bw k : Nat) (tr : List S115) (tv : Value) (x : Int) (hk : k < 22) (hx : pageW[k]? = some x) (hM : Mem F w bm bw (wsAt k) tr 0 tv) (ht : tr.length = k) :
  Calls Tryz.prog 15 #[.pointer (some ⟨bm, 0, none⟩), .int .i64 (8 + (k : Int)), .int .i64 x] w fun e w' => e = .returned (.int .i64 0) ∧ ∃ tr' tv', Mem F w' bm bw (wsAt (k + 1)) tr' 0 tv' ∧ tr'.length = k + 1 ∧ Keep F w w' := by
 obtain ⟨h1, h2⟩ := ws_next ⟨k, hk⟩
 have hx' : pageW.getD k 0 = x := by rw [List.getD_eq_getElem?_getD, hx]; rfl
 refine (store_calls F w bm bw (wsAt k) tr 0 tv (8 + (k : Int)) x hM (by omega)).mono ?_
 rintro e w' ⟨rfl, hD⟩
 have h2' : lkE (wsAt k) (8 + (k : Int)) = 0 := h2
 have h1' : stW (wsAt k) (8 + (k : Int)) x = wsAt (k + 1) := by rw [← hx']; exact h1
 obtain ⟨tv', hm⟩ := hD.mem
 rw [h1', lkB, if_pos h2'] at hm
 exact ⟨by rw [h2'], _, tv', hm, by simp [ht], hD.keep⟩
theorem st_a (F : Nat → Prop) (w : World) (bm bw : Nat) (tr : List S115) (tv : Value) (hM : Mem F w bm bw (wsAt 22) tr 0 tv) (ht : tr.length = 22) :
  Calls Tryz.prog 15 #[.pointer (some ⟨bm, 0, none⟩), .int .i64 0, .int .i64 8] w fun e w' => e = .returned (.int .i64 0) ∧ ∃ tr' tv', Mem F w' bm bw (stW (wsAt 22) 0 8) tr' 0 tv' ∧ tr'.length = 23 ∧ Keep F w w' := by
 refine (store_calls F w bm bw (wsAt 22) tr 0 tv 0 8 hM (by omega)).mono ?_
 rintro e w' ⟨rfl, hD⟩
 obtain ⟨tv', hm⟩ := hD.mem
 rw [lkB, if_pos ws_end.2.1] at hm
 exact ⟨by rw [ws_end.2.1], _, tv', hm, by simp [ht], hD.keep⟩
theorem st_b (F : Nat → Prop) (w : World) (bm bw : Nat) (tr : List S115) (tv : Value) (hM : Mem F w bm bw (stW (wsAt 22) 0 8) tr 0 tv) (ht : tr.length = 23) :
  Calls Tryz.prog 15 #[.pointer (some ⟨bm, 0, none⟩), .int .i64 1, .int .i64 1] w fun e w' => e = .returned (.int .i64 0) ∧ ∃ tr' tv', Mem F w' bm bw W30 tr' 0 tv' ∧ tr'.length = 24 ∧ Keep F w w' := by
 refine (store_calls F w bm bw (stW (wsAt 22) 0 8) tr 0 tv 1 1 hM (by omega)).mono ?_
 rintro e w' ⟨rfl, hD⟩
 obtain ⟨tv', hm⟩ := hD.mem
 rw [ws_end.1, lkB, if_pos ws_end.2.2] at hm
 exact ⟨by rw [ws_end.2.2], _, tv', hm, by simp [ht], hD.keep⟩
theorem house_calls (w : World) (b bl : Nat) (hp : (p1 b).In w) (hl : w.heap[bl]? = some (.cells (pV b) 82 (0, 0))) :
  Calls Tryz.prog 22 #[.int .i64 5, .slice (some ⟨bl, 0, none⟩) 1 1] w fun e w' => ∃ bh bm bw bs bsite bi bmp vP vS tv tr, e = .returned (.pointer (some ⟨bh, 0, none⟩)) ∧ Hs w w' bh bm bw bs bsite bi bmp vP vS tv tr := by
 have HP := jA hp
 have HL := jA hl
 have HIX := jA (newix_calls (fun _ => False) w (fun _ h => h.elim))
 clear hp hl
 go_enter Tryz.func22, Tryz.ntmps22
 go_upto_region 4 with (first | (go_at_call 47; (refine HIX.out.mono ?_); rintro e w1 ⟨rfl, hi1, hb1⟩; have HI1 := jA hi1; have HB1 := jA hb1; clear hi1 hb1))
 obtain ⟨w2, hw2⟩ : ∃ q, q = w1.alloc (.cells (hzV (w.heap.size + 1) (.slice none 0 0) (.slice none 0 0)) 138) := ⟨_, rfl⟩
 obtain ⟨bh, hbh⟩ : ∃ q, q = w1.heap.size := ⟨_, rfl⟩
 have hh2 := heap_alloc_new w1 (.cells (hzV (w.heap.size + 1) (.slice none 0 0) (.slice none 0 0)) 138)
 have hb2 : Below w1.heap.size w1 w2 := by rw [hw2]; exact below_alloc (Below.refl _ _) _
 have hI2 := HI1.out.below hb2
 have hB2 := below_then HB1.out HB1.out.size hb2
 have hsz1 : w.heap.size + 1 < w1.heap.size := (Array.getElem?_eq_some_iff.1 HI1.out.var).1
 rw [← hw2, ← hbh] at hh2
 rw [← hw2, ← hbh]
 obtain ⟨bi, hbi⟩ : ∃ q, q = w.heap.size + 1 := ⟨_, rfl⟩
 obtain ⟨bmp, hbmp⟩ : ∃ q, q = w.heap.size := ⟨_, rfl⟩
 rw [← hbi, ← hbmp] at hI2
 rw [← hbi] at hh2 ⊢
 have HH2 := jA hh2
 have HI2 := jA hI2
 have HB2 := jA hB2
 have HNB := jA (show w.heap.size ≤ bi ∧ w.heap.size ≤ bmp ∧ bh ≠ bi ∧ bh ≠ bmp ∧ w.heap.size ≤ bh from ⟨by omega, by omega, by omega, by omega, by omega⟩)
 have HP2 := jA (MPol.Pol.In.below HP.out hB2)
 have HL2 := jA (boxB HL.out hB2)
 clear hh2 hI2 hB2 hb2 hbh hbi hbmp hw2 hsz1 HI1 HB1
 go_wp2
 go_loopw [6, 8] (fun u6 u8 wr => (u6 = .slice none 0 0 ∧ u8 = .int .i64 0 ∧ wr = w2) ∨ (u8 = .int .i64 1 ∧ ∃ (g6 c6 gP cP : Nat) (vS : Value), u6 = .slice (some ⟨g6, 0, none⟩) 22 c6 ∧ Aside0 (LpB w wr bh bi bmp g6 gP (.slice (some ⟨gP, 0, none⟩) 1 cP) vS))) (fun _ u _ => 1 - (intOf u).toNat)
 case atStart => exact .inl ⟨rfl, rfl, rfl⟩
 case round =>
  rcases hrel with ⟨rfl, rfl, hwr⟩ | ⟨rfl, g6, c6, gP, cP, vS, rfl, HR⟩
  ·rw [hwr]
   clear hwr
   have HPC := jA (cells7 (vs := (pV b).toList) HL2.out)
   have HPI := jA (show (Tryz.prog.info? 82).map (·.size) = some (pV b).toList.length from i31)
   have HQC := jA (compileA b w2 HP2.out)
   have c4 := cellOf HH2.out 4 (.slice none 0 0) rfl
   go_upto_region 10 with (first | ((with_reducible refine gate_dst (N := 33) rfl ?_); refine wpList_load_at rfl 82 (.tmp 32) rfl ⟨bl, 0, none⟩ ?hx (pV b).toList HPC.out _ Tryz.underlying82 rfl HPI.out ?_; (case hx => rfl)) | (go_at_call 49; (refine HQC.out.mono ?_); rintro e w3 ⟨a, rfl, hg3, hb3⟩; have HQL := jA (lay_calls a (fun _ => False) w3 bi bmp hg3 (HI2.out.below hb3)); have HB3 := jA hb3; clear hg3 hb3) | (go_at_call 48; (refine HQL.out.mono ?_); rintro e w4 ⟨bp, rfl, hpg, hbp, hix, hk4⟩; have HPG := jA hpg; have HBP := jA hbp; have HIX4 := jA hix; have HK4 := jA hk4; clear hpg hbp hix hk4 c4))
   have h3 := boxB HH2.out HB3.out
   have hl3 : bh < w3.heap.size := (Array.getElem?_eq_some_iff.1 h3).1
   have h4 := kb HK4.out ⟨hl3, HNB.out.2.2.1, HNB.out.2.2.2.1⟩ h3
   have hb23 := below_then HB2.out HB2.out.size HB3.out
   have hb4 : Below w.heap.size w w4 := hb23.trans (keep_below HK4.out hb23.size HNB.out.1 HNB.out.2.1)
   have HB4 := jA hb4
   have c4 := cellOf h4 4 (.slice none 0 0) rfl
   obtain ⟨gP, cP, w5, hrun, hcP, hgP, hb5⟩ := app_one w4 22 8
   have h5 := boxB h4 hb5
   have f4 := cellOf h5 4 (.slice none 0 0) rfl
   have g4 := MPut.frozen_of_row h5 4
   have HRUN := jA hrun
   have H5 := jA h5
   have HCP := jA hcP
   have HB5 := jA hb5
   have HGP := jA hgP
   have hbl : bh < w4.heap.size := (Array.getElem?_eq_some_iff.1 h4).1
   have hbpl : bp < w4.heap.size := (Array.getElem?_eq_some_iff.1 HPG.out).1
   have HN := jA (show bh ≠ gP ∧ bh ≠ bp from ⟨by omega, by have := HBP.out; omega⟩)
   have HF3 := jA (show FL w3 bi bmp bh from ⟨hl3, HNB.out.2.2.1, HNB.out.2.2.2.1⟩)
   clear h3 hl3 h4 hb23 hb4 hrun h5 hcP hb5 hgP hbl hbpl
   go_upto_region 11 with (first | ((with_reducible refine gate_builtin (b := .append) (xs := #[.tmp 50, .tmp 54]) rfl ?_); refine Kd.event_run rfl (w1 := w5) (v := .slice (some ⟨gP, 0, none⟩) 1 cP) (by have hh := HRUN.out; simp [execOp, Act.eval, resolve, invoke, builtin, hh]) ?_))
   (try simp only [Act.put])
   have h6 := blk_set H5.out 4 (.slice (some ⟨gP, 0, none⟩) 1 cP)
   have hp6 := (Below.heap_setCell w5 ⟨bh, 4, none⟩ (.slice (some ⟨gP, 0, none⟩) 1 cP) bp (fun e => HN.out.2 e.symm)).trans (boxB HPG.out HB5.out)
   have hc6 : (w5.setCell ⟨bh, 4, none⟩ (.slice (some ⟨gP, 0, none⟩) 1 cP)).cell? ⟨gP, 0, none⟩ = some (.int .i64 8) := by rw [World.cell?_of_block (w := w5) (Below.heap_setCell _ _ _ _ (fun e => HN.out.1 e.symm))]; exact HCP.out
   have hi6 : ∃ v n, Ix (FL w3 bi bmp) (w5.setCell ⟨bh, 4, none⟩ (.slice (some ⟨gP, 0, none⟩) 1 cP)) bi bmp L4 v n := by
    obtain ⟨v, n, hix⟩ := HIX4.out
    exact ⟨v, n, (hix.below HB5.out).far HF3.out _⟩
   have hb6 : Below w.heap.size w (w5.setCell ⟨bh, 4, none⟩ (.slice (some ⟨gP, 0, none⟩) 1 cP)) := (below_then HB4.out HB4.out.size HB5.out).setCell HNB.out.2.2.2.2 _
   obtain ⟨w6, hw6⟩ : ∃ q, q = w5.setCell ⟨bh, 4, none⟩ (.slice (some ⟨gP, 0, none⟩) 1 cP) := ⟨_, rfl⟩
   rw [← hw6] at h6 hp6 hc6 hi6 hb6 ⊢
   have c5 := cellOf h6 5 (.slice none 0 0) rfl
   have cp1 := cellOf hp6 1 (.int .i64 8) rfl
   have H6 := jA h6
   have HP6 := jA hp6
   have HC6 := jA hc6
   have HI6 := jA hi6
   have HB6 := jA hb6
   clear h6 hp6 hc6 hi6 hb6 hw6 f4 g4 c4
   refine start_ (n := 13) (S := fun w' => w'.cell? ⟨bh, 5, none⟩ = some (.slice none 0 0) ∧ w'.cell? ⟨bp, 1, none⟩ = some (.int .i64 8)) (ds := [12]) (Jb 13 0) (by kernel_rfl) rfl (by kernel_rfl) ⟨c5, cp1⟩ (fun hHeld => ?_)
   refine Jp 0 58 (Jb 13 1) rfl rfl ?_
   refine Jp 1 59 (Jb 13 3) rfl rfl ?_
   refine Jp 2 60 (Jb 13 7) rfl rfl ?_
   refine Jp 3 61 (Jb 13 15) rfl rfl ?_
   refine Jk 4 62 (Jb 13 31) rfl rfl hHeld (.inl ⟨by rfl, by rintro w' ⟨s0, s1⟩; go_simp; with_reducible rfl⟩) ?_
   refine Jp 5 63 (Jb 13 63) rfl rfl ?_
   refine Jp 6 64 (Jb 13 127) rfl rfl ?_
   refine Jk 7 65 (Jb 13 255) rfl rfl hHeld (.inl ⟨by rfl, by rintro w' ⟨s0, s1⟩; go_simp; with_reducible rfl⟩) ?_
   refine one_ (i := 8) (N := some 66) (Jb 13 511) rfl rfl (by kernel_rfl) (by decide) (fun K hK => ?_)
   refine GDiffer.step_run (w' := w6.drew.alloc (.cells #[.int .i64 8] 3)) (v := .slice (some ⟨w6.drew.heap.size, 0, none⟩) 1 1) rfl rfl (by go_simp) ?_
   have hal := below_alloc (Below.refl _ w6.drew) (.cells #[.int .i64 8] 3)
   refine hK.out _ _ ⟨cellBelow hal (show w6.drew.cell? ⟨bh, 5, none⟩ = _ from c5), cellBelow hal (show w6.drew.cell? ⟨bp, 1, none⟩ = _ from cp1)⟩ (fun hHeld => ?_)
   clear hK K hal
   refine norm_ (a' := ?_) ?_ ?_; rotate_left; (show Act.put _ (some 66) _ = _; simp only [Act.put, Jq, Jr, Js]; rfl)
   refine one_ (i := 9) (N := some 67) (Jb 13 1023) rfl rfl (by kernel_rfl) (by decide) (fun K hK => ?_)
   obtain ⟨gS, cS, w7, hrun, hcS, hgS, hb7⟩ := app_one w6.drew 22 8
   have hrun2 : (Builtin.append_ #[22, 22] 22 #[.slice none 0 0, .slice (some ⟨w6.heap.size, 0, none⟩) 1 1]).run Tryz.prog (w6.drew.alloc (.cells #[.int .i64 8] 3)) = .ok (.slice (some ⟨gS, 0, none⟩) 1 cS) w7 := hrun
   refine GDiffer.step_run (w' := w7) (v := .slice (some ⟨gS, 0, none⟩) 1 cS) rfl rfl (by simp [execOp, Act.eval, resolve, invoke, builtin, hrun2]) ?_
   have HB7 := jA hb7
   refine hK.out _ _ ⟨cellBelow hb7 (show w6.drew.cell? ⟨bh, 5, none⟩ = _ from c5), cellBelow hb7 (show w6.drew.cell? ⟨bp, 1, none⟩ = _ from cp1)⟩ (fun hHeld => ?_)
   clear hK K hrun hrun2 hb7 hcS hgS
   refine norm_ (a' := ?_) ?_ ?_; rotate_left; (show Act.put _ (some 67) _ = _; simp only [Act.put, Jq, Jr, Js]; rfl)
   refine Jp 10 68 (Jb 13 2047) rfl rfl ?_
   refine Jp 11 69 (Jb 13 4095) rfl rfl ?_
   refine last_ (i := 12) (N := none) (Jb 13 8191) rfl rfl (by kernel_rfl) (by decide) (fun K hK => ?_)
   refine GDiffer.step_skip (w' := w7.setCell ⟨bh, 5, none⟩ (.slice (some ⟨gS, 0, none⟩) 1 cS)) rfl rfl (by have hst := store_sl (W := w7) (A := some ⟨gS, 0, none⟩) (n := 1) (c := cS) hHeld.1 (MPut.frozen_of_row (boxB (show w6.drew.heap[bh]? = _ from H6.out) HB7.out) 5); simp [execOp, Act.eval, hst]) ?_
   refine hK.out _ _ ?_
   clear hK K
   refine done_ (by kernel_rfl) ?_
   have hbd : Below w6.drew.heap.size w6.drew w7 := HB7.out
   have hb67 : Below w6.heap.size w6 w7 := ⟨hbd.os, hbd.tape, hbd.output, hbd.size, hbd.block⟩
   have h7 := boxB H6.out hb67
   have h8 := blk_set h7 5 (.slice (some ⟨gS, 0, none⟩) 1 cS)
   have hp7 := boxB HP6.out hb67
   have hlb : bh < w6.heap.size := (Array.getElem?_eq_some_iff.1 H6.out).1
   have hp8 := (Below.heap_setCell w7 ⟨bh, 5, none⟩ (.slice (some ⟨gS, 0, none⟩) 1 cS) bp (fun e => HN.out.2 e.symm)).trans hp7
   have hc7 := cellBelow hb67 HC6.out
   have hc8 : (w7.setCell ⟨bh, 5, none⟩ (.slice (some ⟨gS, 0, none⟩) 1 cS)).cell? ⟨gP, 0, none⟩ = some (.int .i64 8) := by rw [World.cell?_of_block (w := w7) (Below.heap_setCell _ _ _ _ (fun e => HN.out.1 e.symm))]; exact hc7
   have hi8 : ∃ v n, Ix (FL w3 bi bmp) (w7.setCell ⟨bh, 5, none⟩ (.slice (some ⟨gS, 0, none⟩) 1 cS)) bi bmp L4 v n := by
    obtain ⟨v, n, hix⟩ := HI6.out
    exact ⟨v, n, (hix.below hb67).far HF3.out _⟩
   have hb8 : Below w.heap.size w (w7.setCell ⟨bh, 5, none⟩ (.slice (some ⟨gS, 0, none⟩) 1 cS)) := (below_then HB6.out HB6.out.size hb67).setCell HNB.out.2.2.2.2 _
   obtain ⟨w8, hw8⟩ : ∃ q, q = w7.setCell ⟨bh, 5, none⟩ (.slice (some ⟨gS, 0, none⟩) 1 cS) := ⟨_, rfl⟩
   rw [← hw8] at h8 hp8 hc8 hi8 hb8 ⊢
   obtain ⟨g6, c6, w9, hrun, hcw, hg6, hb9⟩ := app_niln w8 22 ⟨bp, 0, none⟩ 22 22 pageW rfl (by decide) (by decide) (fun j x hx => cells7 (vs := pageW.map (Value.int .i64)) hp8 j (.int .i64 x) (by rw [List.getElem?_map, hx]; rfl))
   have HRUN2 := jA hrun
   have HLP : Aside0 (LpB w w9 bh bi bmp g6 gP (.slice (some ⟨gP, 0, none⟩) 1 cP) (.slice (some ⟨gS, 0, none⟩) 1 cS)) := ⟨⟨boxB h8 hb9, hcw, cellBelow hb9 hc8, by obtain ⟨v, n, hix⟩ := hi8; exact ⟨_, v, n, HF3.out, hix.below hb9⟩, below_then hb8 hb8.size hb9⟩⟩
   clear hbd hb67 h7 h8 hp7 hlb hp8 hc7 hc8 hi8 hb8 hw8 hrun hcw hg6 hb9 c5 cp1
   go_wp2_with (first | ((with_reducible refine gate_builtin (b := .append) (xs := #[.tmp 70, .tmp 71]) rfl ?_); refine Kd.event_run rfl (w1 := w9) (v := .slice (some ⟨g6, 0, none⟩) 22 c6) (by have hh := HRUN2.out; simp [execOp, Act.eval, resolve, invoke, builtin, hh]) ?_))
   go_roundw
   case rel => exact .inr ⟨rfl, g6, c6, gP, cP, _, rfl, HLP⟩
   case measure => simp [intOf]
  ·obtain ⟨wo, hwo⟩ : ∃ wo : World, wo = wr := ⟨_, rfl⟩
   subst hwo
   have c4 := cellOf HR.out.house 4 (.slice (some ⟨gP, 0, none⟩) 1 cP) rfl
   have HNEW := jA (new_calls (fun k => k < wo.heap.size) wo 30 (by decide) (by decide) (fun k h => h))
   go_upto_region 16 with (first | (go_at_call 14; (refine HNEW.out.mono ?_); rintro e wm ⟨rfl, hM, hbm⟩; have HM := jA hM; have HBM := jA hbm; have c4m := cellBelow hbm c4; clear hM hbm c4))
   have HWS : Aside0 (∃ tr tv, Mem (fun k => k < wo.heap.size) wm (wo.heap.size + 1) wo.heap.size (wsAt 0) tr 0 tv ∧ tr.length = 0 ∧ Keep (fun k => k < wo.heap.size) wo wm) := ⟨[], _, HM.out, rfl, (Keep.refl _ wo).below HBM.out⟩
   clear c4m HNEW
   go_wp2
   go_loopw [13] (fun u ws => ∃ k : Nat, k ≤ 22 ∧ u = .int .i64 k ∧ Aside0 (∃ tr tv, Mem (fun k => k < wo.heap.size) ws (wo.heap.size + 1) wo.heap.size (wsAt k) tr 0 tv ∧ tr.length = k ∧ Keep (fun k => k < wo.heap.size) wo ws)) (fun u _ => 22 - (intOf u).toNat)
   case atStart => exact ⟨0, by omega, rfl, HWS⟩
   case round =>
    obtain ⟨k, hk, rfl, HS⟩ := hrel
    obtain ⟨tr, tv, hM, htr, hK⟩ := HS.out
    by_cases hlt : k < 22
    ·obtain ⟨x, hx⟩ : ∃ x, pageW[k]? = some x := ⟨_, List.getElem?_eq_getElem (show k < pageW.length from hlt)⟩
     have hcx := HR.out.words k x hx
     have hcx' := Keep.cell hK hcx (World.block_lt_of_cell? _ _ hcx)
     have HQ := jA (st_step _ wr _ _ k tr tv x hlt hx hM htr)
     have HK := jA hK
     have c0' : (k : Int) < 22 := by omega
     clear hM hK hcx hx htr
     go_wp2_with (first | (go_at_call 15; (refine HQ.out.mono ?_); rintro e wn ⟨rfl, hN⟩; have HN2 := jA hN; clear hN))
     go_roundw
     case rel =>
      obtain ⟨tr', tv', h1, h2, h3⟩ := HN2.out
      exact ⟨k + 1, by omega, by go_num, ⟨tr', tv', h1, h2, HK.out.trans h3⟩⟩
     case measure => simp [intOf]; omega
    ·have hkk : k = 22 := by omega
     subst hkk
     have c4 := cellOf HR.out.house 4 (.slice (some ⟨gP, 0, none⟩) 1 cP) rfl
     have hl4 := World.block_lt_of_cell? _ _ c4
     have c4r := Keep.cell hK c4 hl4
     have hcp := Keep.cell hK HR.out.pages (World.block_lt_of_cell? _ _ HR.out.pages)
     have HQ0 := jA (st_a _ wr _ _ tr tv hM htr)
     have HK := jA hK
     have hhr := kb hK (show bh < wo.heap.size from hl4) HR.out.house
     have HHR := jA hhr
     clear hM hK htr hhr
     go_upto_region 21 with (first | (go_at_call 15; (refine HQ0.out.mono ?_); rintro e v1 ⟨rfl, hN⟩; have HV1 := jA hN; clear hN))
     obtain ⟨tr1, tv1, hM1, htr1, hK1⟩ := HV1.out
     have HQ1 := jA (st_b _ v1 _ _ tr1 tv1 hM1 htr1)
     clear hM1 htr1 c4r hcp
     go_upto_region 22 with (first | (go_at_call 15; (refine HQ1.out.mono ?_); rintro e v2 ⟨rfl, hN⟩; have HV2 := jA hN; clear hN))
     obtain ⟨tr2, tv2, hM2, htr2, hK2⟩ := HV2.out
     have HQ2 := jA (epoch_new _ v2 _ _ W30 tr2 0 tv2 1 4 2 hM2 (by decide) (by decide) (by decide) (by decide) (by decide) (by decide) (by decide))
     have hKK := (HK.out.trans hK1).trans hK2
     have hh2 := kb hKK (show bh < wo.heap.size from hl4) HR.out.house
     have HM2 := jA hM2
     have HT2 := jA htr2
     have HKK := jA hKK
     have HH2v := jA hh2
     clear hM2 htr2 hK1 hK2 hKK hh2
     go_upto_region 25 with (first | (go_at_call 16; (refine HQ2.out.mono ?_); rintro e v3 ⟨rfl, hS3, hb3⟩; have HS3 := jA hS3; have HB3v := jA hb3; clear hS3 hb3))
     have h3 := boxB HH2v.out HB3v.out
     have d0 := cellOf h3 0 (.pointer none) rfl
     have q0 := MPut.frozen_of_row h3 0
     have k1 := blk_set h3 0 (.pointer (some ⟨wo.heap.size + 1, 0, none⟩))
     have d1 := cellOf k1 1 (.pointer none) rfl
     have q1 := MPut.frozen_of_row k1 1
     have k2 := blk_set k1 1 (.pointer (some ⟨v2.heap.size, 0, none⟩))
     obtain ⟨x2, hx2⟩ : ∃ q, q = (v3.setCell ⟨bh, 0, none⟩ (.pointer (some ⟨wo.heap.size + 1, 0, none⟩))).setCell ⟨bh, 1, none⟩ (.pointer (some ⟨v2.heap.size, 0, none⟩)) := ⟨_, rfl⟩
     have HX2 := jA hx2
     have o2 : Only bh v3 x2 := by rw [hx2]; exact ((Only.refl bh v3).setCell 0 _).setCell 1 _
     rw [← hx2] at k2
     have hal := below_alloc (Below.refl _ x2) (.cells (siteV (wo.heap.size + 1) v2.heap.size 0 0) 64)
     have k3 := boxB k2 hal
     have d2 := cellOf k3 2 (.pointer none) rfl
     have q2 := MPut.frozen_of_row k3 2
     have k4 := blk_set k3 2 (.pointer (some ⟨x2.heap.size, 0, none⟩))
     have HK4 := jA k4
     have HO2 := jA o2
     clear k1 k2 k3 k4 o2 hal h3 hx2
     go_upto_region 27 with fail
     rw [← HX2.out]
     go_wp2
     go_ret
     obtain ⟨F, v, n, hFb, hix⟩ := HR.out.ix
     have bK : Below wo.heap.size wo v2 := ⟨HKK.out.ext.1, HKK.out.ext.2.1, HKK.out.ext.2.2, HKK.out.size, fun k hk => HKK.out.at_ k hk hk⟩
     have m3 := HM2.out.below HB3v.out
     have m2 := m3.only HO2.out (show bh < wo.heap.size from hl4)
     have hal := below_alloc (Below.refl _ x2) (.cells (siteV (wo.heap.size + 1) v2.heap.size 0 0) 64)
     have m5 := m2.below hal
     have o4 : Only bh (x2.alloc (.cells (siteV (wo.heap.size + 1) v2.heap.size 0 0) 64)) ((x2.alloc (.cells (siteV (wo.heap.size + 1) v2.heap.size 0 0) 64)).setCell ⟨bh, 2, none⟩ (.pointer (some ⟨x2.heap.size, 0, none⟩))) := (Only.refl bh _).setCell 2 _
     have m4 := m5.only o4 (show bh < wo.heap.size from hl4)
     have hsite := heap_alloc_new x2 (.cells (siteV (wo.heap.size + 1) v2.heap.size 0 0) 64)
     have hslt : v2.heap.size < v3.heap.size := (Array.getElem?_eq_some_iff.1 HS3.out).1
     have hx2s : x2.heap.size = v3.heap.size := HO2.out.size
     have hbm2 := HM2.out.ltm
     have hown : ∀ k, tv2.ownBlock = some k → k < v2.heap.size := Kd.R_lt HM2.out.row
     have hownb : some bh ≠ tv2.ownBlock := HM2.out.ownF bh hl4
     have hslots : SlotsAt x2 v2.heap.size (wo.heap.size + 1) 1 4 2 := (HO2.out.at_ _ (by omega)).trans HS3.out
     have hbelow : Below w.heap.size w x2 := by
      rw [HX2.out]
      exact ((below_then (below_then HR.out.below HR.out.below.size bK) (below_then HR.out.below HR.out.below.size bK).size HB3v.out).setCell HNB.out.2.2.2.2 _).setCell HNB.out.2.2.2.2 _
     have hix2 : Ix F x2 bi bmp L4 v n := by
      rw [HX2.out]
      exact (((hix.below bK).below HB3v.out).far hFb _).far hFb _
     refine ⟨bh, wo.heap.size + 1, wo.heap.size, v2.heap.size, x2.heap.size, bi, bmp, _, _, tv2, tr2, rfl, ⟨HK4.out, (o4.at_ _ (by omega)).trans hsite, (o4.at_ _ (by omega)).trans (boxB hslots hal), ?_, HT2.out, ⟨F, v, n, (hix2.below hal).far hFb _⟩, (below_then hbelow hbelow.size hal).setCell HNB.out.2.2.2.2 _, by omega, ⟨by omega, by omega, fun e => by have := hown _ e.symm; omega⟩, ⟨by omega, by omega, fun e => by have := hown _ e.symm; omega⟩, ⟨by omega, by omega, hownb⟩, fun k hk => ⟨by have := HR.out.below.size; omega, by have := HR.out.below.size; omega, HM2.out.ownF k (Nat.lt_of_lt_of_le hk HR.out.below.size)⟩⟩⟩
     exact { m4 with row := Kd.R_reok rfl m4.row (fun k hk => ⟨(m4.row.1 k hk).1, (m4.row.1 k hk).2.1, fun h => h.2.2.2 hk.symm⟩), fm := fun h => h.2.1 rfl, fw := fun h => h.2.2.1 rfl, lt := fun k h => h.1 }
end Go.Proofs.YtdgkppldopiaoaaGreat.RHouse
/- The three checks of alive (gatehouselaw23), reckoned. -/
namespace Go.Proofs.YtdgkppldopiaoaaGreat.REval
open RMach RCache RCget RRun RCheck PG
set_option maxRecDepth 100000
abbrev wsV : List Int := [8, 1, 0, 0, 0, 0, 0, 0, 5, 8, 2, 1, 0, 0, 7, 1, 0, 0, 13, 2, 0, 0, 0, 0, 18, 1, 9, 1, 1, 0]
abbrev pN : Pl := ⟨false, 0, 0, 0, 0, false, false⟩
abbrev Sx (bm bw bs bsite bx b : Nat) : Sh := ⟨bm, bw, bs, bsite, bx, b, 0, 0, 1, 4, 2⟩
abbrev xX (tr : List S115) (bc : Nat) (s o a : Int) : X := ⟨wsV, tr, 0, mC 1 0 s o a bc, 0, 0⟩
abbrev CZ (bp : Nat) : Cst := ⟨[⟨[pN, pN], 0, bp⟩], ⟨0, 0, 0, 0⟩⟩
abbrev CA (bp : Nat) : Cst := ⟨[⟨[⟨true, 2, 4, 1, 5, true, false⟩, pN], 0, bp⟩], ⟨0, 1, 0, 1⟩⟩
abbrev CB (bp : Nat) : Cst := ⟨[⟨[⟨true, 2, 4, 1, 5, true, true⟩, pN], 0, bp⟩], ⟨1, 1, 0, 1⟩⟩
abbrev CD (bp : Nat) : Cst := ⟨[⟨[⟨true, 2, 4, 1, 5, true, true⟩, ⟨true, 3, 4, 1, 5, false, false⟩], 0, bp⟩], ⟨1, 2, 0, 2⟩⟩
def sumA (r : Nat × X × Cst) : Nat × List Int × Int × Bool × Bool × Int × Cst := (r.1, r.2.1.ws, r.2.1.bad, r.2.1.m.al, r.2.1.m.hit, r.2.1.m.ver, r.2.2)
theorem runA (bm bw bs bsite bx b bc bp : Nat) (tr : List S115) : (runS (Sx bm bw bs bsite bx b) 60 1 (xX tr bc 2 4 1) (CZ bp)).map sumA = some (14, wsV, 0, true, false, 5, CA bp) := by kernel_rfl
theorem runB (bm bw bs bsite bx b bc bp : Nat) (tr : List S115) : (runS (Sx bm bw bs bsite bx b) 60 1 (xX tr bc 2 4 1) (CA bp)).map sumA = some (5, wsV, 0, true, true, 5, CB bp) := by kernel_rfl
theorem runD (bm bw bs bsite bx b bc bp : Nat) (tr : List S115) : (runS (Sx bm bw bs bsite bx b) 60 1 (xX tr bc 3 4 1) (CB bp)).map sumA = some (14, wsV, 0, false, false, 5, CD bp) := by kernel_rfl
end Go.Proofs.YtdgkppldopiaoaaGreat.REval
/- alive, ReaderNames (gatehouselaw23), walked. -/
namespace Go.Proofs.YtdgkppldopiaoaaGreat.RAlive
open Go.RowKit YtdgkppldopiaoaaGreatW.PrintWords YtdgkppldopiaoaaGreatW.PrintLast YtdgkppldopiaoaaGreatW.PrintMore BMap BRow GDiffer GValid MLines MPol MPut RMem RCells REpoch RMach RCache RCget RVer RKnown RCheck RNew RCput RTrace RRun RIndex RHcheck ROne RPage RPput RHouse REval Go.Maps
open PG
set_option maxHeartbeats 400000
set_option maxRecDepth 100000
structure Sit (F : Nat → Prop) (w : World) (bm bw bs bsite : Nat) (tr : List S115) : Prop where
 mem : ∃ tv, Mem F w bm bw wsV tr 0 tv
 site : SiteAt w bsite bm bs 0 0
 slots : SlotsAt w bs bm 1 4 2
 short : tr.length ≤ 1000
 fsite : F bsite
 fs : F bs
structure Cas (F : Nat → Prop) (w : World) (bc bset bp : Nat) (C : Cst) : Prop where
 at_ : CAt w bc bset C
 blk : blks C = [bp]
 f : F bc ∧ F bset ∧ F bp
theorem off_iff {C : Cst} {bc bset bp k : Nat} (hb : blks C = [bp]) : OffC bc bset C.L k ↔ (k ≠ bc ∧ k ≠ bset ∧ k ≠ bp) := by
 constructor
 ·intro h
  refine ⟨h.1, h.2.1, fun e => ?_⟩
  have : bp ∈ blks C := by rw [hb]; simp
  obtain ⟨s, hs, e'⟩ := List.mem_map.1 this
  exact h.2.2 s hs (by rw [e, ← e'])
 ·intro h
  refine ⟨h.1, h.2.1, fun s hs e => ?_⟩
  have : s.blk ∈ blks C := List.mem_map.2 ⟨s, hs, rfl⟩
  rw [hb] at this
  exact h.2.2 (e.trans (List.mem_singleton.1 this))
theorem go_finish (F : Nat → Prop) (w : World) (bh bm bw bs bsite bx b bc bset bp : Nat) (tr : List S115) (s o a : Int) (C C' : Cst) (n : Nat) (al hit : Bool) (hs : Sit F w bm bw bs bsite tr) (hl : tr.length ≤ 500) (hm : MachAt w b bsite bx (mC 1 0 s o a bc)) (hx : SecAt w bx bs 1 0 0)
  (fb : F b ∧ F bx) (hn : bsite ≠ b ∧ bs ≠ b ∧ bx ≠ b ∧ bsite ≠ bx ∧ bs ≠ bx) (hc : Cas F w bc bset bp C) (hcn : ∀ k, (k = bc ∨ k = bset ∨ k = bp) → k ≠ b ∧ k ≠ bsite ∧ k ≠ bs ∧ k ≠ bx) (hh : w.cell? ⟨bh, 0, none⟩ = some (.pointer (some ⟨bm, 0, none⟩))) (hF : F bh ∧ bh ≠ b ∧ bh ≠ bx ∧ bh ≠ bc ∧ bh ≠ bset ∧ bh ≠ bp)
  (hr : (runS (Sx bm bw bs bsite bx b) 60 1 (xX tr bc s o a) C).map sumA = some (n, wsV, 0, al, hit, 5, C')) :
  Calls Tryz.prog 27 #[.pointer (some ⟨bh, 0, none⟩), .pointer (some ⟨b, 0, none⟩), .int .i64 60] w fun e w' => e = .returned (.int .i64 n) ∧ ∃ tr' m', Sit F w' bm bw bs bsite tr' ∧ tr'.length ≤ tr.length + 60 ∧ MachAt w' b bsite bx m' ∧ m'.al = al ∧ m'.hit = hit ∧ m'.ver = 5 ∧ Cas F w' bc bset bp C' ∧ Keep (fun k => F k ∧ k ≠ b ∧ k ≠ bx ∧ k ≠ bc ∧ k ≠ bset ∧ k ≠ bp) w w' := by
 obtain ⟨⟨n', x', C1⟩, h1, h2⟩ := Option.map_eq_some_iff.1 hr
 simp only [sumA, Prod.mk.injEq] at h2
 obtain ⟨rfl, e1, e2, e3, e4, e5, rfl⟩ := h2
 have hlen := runS_len _ _ _ _ _ _ _ h1
 have hRy : Ry F (Sx bm bw bs bsite bx b) w (xX tr bc s o a) bset C := ⟨{
  mem := hs.mem
  site := hs.site
  slots := hs.slots
  mach := hm
  sec := hx
  fsite := hs.fsite
  fs := hs.fs
  fb := fb.1
  fx := fb.2
  n1 := hn.1
  n2 := hn.2.1
  n3 := hn.2.2.1
  n4 := hn.2.2.2.1
  n5 := hn.2.2.2.2
  lo := (by decide : (0 : Int) ≤ 1)
  hi := (by decide : (1 : Int) < 2)
  short := by have := hs.short; show tr.length ≤ _; omega }, fun bc' e => by
   obtain rfl : bc = bc' := Option.some.inj e
   refine ⟨hc.at_, fun k hk => ?_⟩
   have hk' : k = bc ∨ k = bset ∨ k = bp := by
    apply Classical.byContradiction
    intro h
    exact hk ((off_iff hc.blk).2 ⟨fun e => h (.inl e), fun e => h (.inr (.inl e)), fun e => h (.inr (.inr e))⟩)
   refine ⟨?_, hcn k hk'⟩
   rcases hk' with rfl | rfl | rfl
   ·exact hc.f.1
   ·exact hc.f.2.1
   ·exact hc.f.2.2⟩
 have hKF : KF F (Sx bm bw bs bsite bx b) (xX tr bc s o a).m.cache bset C bh := ⟨hF.1, hF.2.1, hF.2.2.1, fun bc' e => by
  obtain rfl : bc = bc' := Option.some.inj e
  exact (off_iff hc.blk).2 ⟨hF.2.2.2.1, hF.2.2.2.2.1, hF.2.2.2.2.2⟩⟩
 refine (finish_calls F (Sx bm bw bs bsite bx b) w (xX tr bc s o a) 60 bset bh C hRy hh hKF (by show tr.length + 60 < _; omega) (by decide) n' x' C1 h1).mono ?_
 rintro e w' ⟨rfl, hy, hk⟩
 have hcache : x'.m.cache = some bc := runS_cache _ _ _ _ _ _ _ h1
 have hbl : blks C1 = [bp] := hlen.2.trans hc.blk
 have hrd := hy.rd
 have hmem := hrd.mem
 rw [e1, e2] at hmem
 exact ⟨rfl, x'.tr, x'.m, ⟨hmem, hrd.site, hrd.slots, by have := hlen.1; have : x'.tr.length ≤ tr.length + 60 := this; omega, hs.fsite, hs.fs⟩, hlen.1, hrd.mach, e3, e4, e5, ⟨(hy.cd bc hcache).at_, hbl, hc.f⟩, hk.less (fun k h => ⟨h.1, h.2.1, h.2.2.1, fun bc' e => by
  obtain rfl : bc = bc' := Option.some.inj e
  exact (off_iff hc.blk).2 h.2.2.2⟩)⟩
theorem ans_go (w : World) (b bsite bx : Nat) (m : Mst) (al hit : Bool) (hm : MachAt w b bsite bx m) (ha : m.al = al) (hh : m.hit = hit) (hv : m.ver = 5) (W : World) (hb : Below w.heap.size w W) :
  Calls Tryz.prog 21 #[.pointer (some ⟨b, 0, none⟩)] W fun e w' => e = .returned (.agg #[.bool al, .bool hit, .bool m.br, .int .i64 5, .int .i64 m.page]) ∧ Below w.heap.size w w' := by
 refine (answer_calls W b bsite bx m (boxB hm hb)).mono ?_
 rintro e w' ⟨rfl, h2⟩
 refine ⟨?_, below_then hb hb.size h2⟩
 rw [ansV, ha, hh, hv]
def FA (w : World) (bm bw : Nat) (tv : Value) : Nat → Prop := fun k => k < w.heap.size ∧ k ≠ bm ∧ k ≠ bw ∧ some k ≠ tv.ownBlock
theorem hs_sit {w0 w W : World} {bh bm bw bs bsite bi bmp : Nat} {vP vS tv : Value} {tr : List S115} (h : Hs w0 w bh bm bw bs bsite bi bmp vP vS tv tr) (hb : Below w.heap.size w W) : Sit (FA W bm bw tv) W bm bw bs bsite tr := by
 have hM := h.mem.below hb
 have lsite : bsite < W.heap.size := Nat.lt_of_lt_of_le (Array.getElem?_eq_some_iff.1 h.site).1 hb.size
 have ls : bs < W.heap.size := Nat.lt_of_lt_of_le (Array.getElem?_eq_some_iff.1 h.slots).1 hb.size
 exact ⟨⟨tv, { hM with row := Kd.R_reok rfl hM.row (fun k hk => ⟨(hM.row.1 k hk).1, (hM.row.1 k hk).2.1, fun q => q.2.2.2 hk.symm⟩), fm := fun q => q.2.1 rfl, fw := fun q => q.2.2.1 rfl, lt := fun k q => q.1 }⟩, boxB h.site hb, boxB h.slots hb, by rw [h.short]; decide, ⟨lsite, h.d2.1, h.d2.2.1, h.d2.2.2⟩, ⟨ls, h.d3.1, h.d3.2.1, h.d3.2.2⟩⟩
theorem kb_below {F : Nat → Prop} {w W : World} {B : Nat} (h : Keep F w W) (hB : B ≤ w.heap.size) (hF : ∀ k, k < B → F k) : Below B w W := ⟨h.ext.1, h.ext.2.1, h.ext.2.2, h.size, fun k hk => h.at_ k (by omega) (hF k hk)⟩
theorem bt {w w1 w2 : World} (h : Below w.heap.size w w1) (k : Below w1.heap.size w1 w2) : Below w.heap.size w w2 := below_then h h.size k
theorem kc {F : Nat → Prop} {w w1 : World} {b : Nat} {v : Value} (hk : Keep F w w1) (h : w.cell? ⟨b, 0, none⟩ = some v) (hF : F b) : w1.cell? ⟨b, 0, none⟩ = some v := Keep.cell hk h hF
theorem cat_lt {w : World} {bc bset bp : Nat} (h : CAt w bc bset (C0 bp)) : bc < w.heap.size ∧ bset < w.heap.size ∧ bp < w.heap.size :=
 ⟨(Array.getElem?_eq_some_iff.1 h.top).1, (Array.getElem?_eq_some_iff.1 h.sets).1, (Array.getElem?_eq_some_iff.1 (h.each ⟨[pz, pz], 0, bp⟩ (by simp [C0]))).1⟩
theorem hs_to {w0 w W : World} {bh bm bw bs bsite bi bmp : Nat} {vP vS tv : Value} {tr : List S115} (h : Hs w0 w bh bm bw bs bsite bi bmp vP vS tv tr) (hb : Below w.heap.size w W) : Hs w0 W bh bm bw bs bsite bi bmp vP vS tv tr := by
 have hM := h.mem.below hb
 obtain ⟨F, v, n, hI⟩ := h.ix
 exact ⟨boxB h.house hb, boxB h.site hb, boxB h.slots hb, { hM with row := Kd.R_reok rfl hM.row (fun k hk => ⟨(hM.row.1 k hk).1, (hM.row.1 k hk).2.1, fun q => q.2.2.2 hk.symm⟩), fm := fun q => q.2.1 rfl, fw := fun q => q.2.2.1 rfl, lt := fun k q => q.1 }, h.short, ⟨F, v, n, hI.below hb⟩, below_then h.below h.below.size hb, h.d1, h.d2, h.d3, h.d4, h.lo⟩
theorem hs_lts {w0 w : World} {bh bm bw bs bsite bi bmp : Nat} {vP vS tv : Value} {tr : List S115} (h : Hs w0 w bh bm bw bs bsite bi bmp vP vS tv tr) : bh < w.heap.size ∧ bm < w.heap.size ∧ bw < w.heap.size ∧ bs < w.heap.size ∧ bsite < w.heap.size ∧ (∀ k, tv.ownBlock = some k → k < w.heap.size) :=
 ⟨(Array.getElem?_eq_some_iff.1 h.house).1, h.mem.ltm, h.mem.ltw, (Array.getElem?_eq_some_iff.1 h.slots).1, (Array.getElem?_eq_some_iff.1 h.site).1, fun k hk => Kd.R_lt h.mem.row k hk⟩
theorem hs_check {w0 w : World} {bh bm bw bs bsite bi bmp : Nat} {vP vS tv : Value} {tr : List S115} (h : Hs w0 w bh bm bw bs bsite bi bmp vP vS tv tr) (bc : Nat) (s : ByteArray) (si : Int) (ks : okS s) (is : ixF L4 s = some si) :
  Calls Tryz.prog 25 #[.pointer (some ⟨bh, 0, none⟩), .pointer (some ⟨bc, 0, none⟩), .agg #[.string s, .string bDoor, .string bOpen]] w fun e w' => ∃ b bx, e = .returned (.pointer (some ⟨b, 0, none⟩)) ∧ (w.heap.size ≤ bx ∧ bx < b ∧ MachAt w' b bsite bx (mC 1 0 si 4 1 bc) ∧ SecAt w' bx bs 1 0 0) ∧ Below w.heap.size w w' := by
 obtain ⟨F, v, n, hI⟩ := h.ix
 refine (hcheck_calls F w bh bm bs bsite bi bmp vP vS 0 0 1 4 2 L4 v n bc s bDoor bOpen si 4 1 h.house h.site h.slots (by decide) hI ks (ok4 _ (by simp)) (ok4 _ (by simp)) is (by decide +kernel) (by decide +kernel)).mono ?_
 rintro e w' ⟨b, bx, rfl, h1, h2, h3, h4, h5⟩
 exact ⟨b, bx, rfl, ⟨h1, h2, h3, h4⟩, h5⟩
theorem one_arr (b : Nat) : Array.foldl (fun cs (x : Value × Nat) => cs.setIfInBounds x.snd x.fst) #[.slice none 0 0, .slice none 0 0, .slice none 0 0, .slice none 0 0, .slice none 0 0, .slice none 0 0, .slice none 0 0, .slice none 0 0, .slice none 0 0, .slice none 0 0, .slice none 0 0] (pV b).zipIdx 0 11 = pV b := by
 kernel_rfl
structure Trio (w0 w : World) (bh bm bw bs bsite bi bmp : Nat) (vP vS tv : Value) (tr : List S115) (N bc bset bp b1 x1 b2 x2 b3 x3 : Nat) : Prop where
 hs : Hs w0 w bh bm bw bs bsite bi bmp vP vS tv tr
 n0 : w0.heap.size ≤ N
 lts : bh < N ∧ bm < N ∧ bw < N ∧ bs < N ∧ bsite < N ∧ (∀ k, tv.ownBlock = some k → k < N)
 cat : CAt w bc bset (C0 bp)
 lc : N ≤ bc ∧ N ≤ bset ∧ N ≤ bp
 m1 : MachAt w b1 bsite x1 (mC 1 0 2 4 1 bc)
 s1 : SecAt w x1 bs 1 0 0
 m2 : MachAt w b2 bsite x2 (mC 1 0 2 4 1 bc)
 s2 : SecAt w x2 bs 1 0 0
 m3 : MachAt w b3 bsite x3 (mC 1 0 3 4 1 bc)
 s3 : SecAt w x3 bs 1 0 0
 ord : bc < x1 ∧ bset < x1 ∧ bp < x1 ∧ x1 < b1 ∧ b1 < x2 ∧ x2 < b2 ∧ b2 < x3 ∧ x3 < b3
section
variable {w0 w : World} {bh bm bw bs bsite bi bmp : Nat} {vP vS tv : Value} {tr : List S115} {N bc bset bp b1 x1 b2 x2 b3 x3 : Nat} (t : Trio w0 w bh bm bw bs bsite bi bmp vP vS tv tr N bc bset bp b1 x1 b2 x2 b3 x3)
include t
theorem Trio.f (k : Nat) (h1 : N ≤ k) (h2 : k ≤ b3) : FA w bm bw tv k := by
 have h3 : b3 < w.heap.size := (Array.getElem?_eq_some_iff.1 t.m3).1
 have h4 := t.lts
 exact ⟨by omega, by omega, by omega, fun e => by have := h4.2.2.2.2.2 k e.symm; omega⟩
theorem Trio.fh : FA w bm bw tv bh := ⟨(hs_lts t.hs).1, t.hs.d4.1, t.hs.d4.2.1, t.hs.d4.2.2⟩
theorem Trio.cell : w.cell? ⟨bh, 0, none⟩ = some (.pointer (some ⟨bm, 0, none⟩)) := cellOf t.hs.house 0 _ rfl
end
structure Mid (F : Nat → Prop) (w w' : World) (bm bw bs bsite bc bset bp b x : Nat) (C : Cst) (L : Nat) (al hit : Bool) : Prop where
 sit : ∃ tr', Sit F w' bm bw bs bsite tr' ∧ tr'.length ≤ L
 mach : ∃ m', MachAt w' b bsite x m' ∧ m'.al = al ∧ m'.hit = hit ∧ m'.ver = 5
 cas : Cas F w' bc bset bp C
 keep : Keep (fun k => F k ∧ k ≠ b ∧ k ≠ x ∧ k ≠ bc ∧ k ≠ bset ∧ k ≠ bp) w w'
section
variable {w0 w w1 w2 w3 : World} {bh bm bw bs bsite bi bmp : Nat} {vP vS tv : Value} {tr : List S115} {N bc bset bp b1 x1 b2 x2 b3 x3 : Nat}
theorem fin1 (t : Trio w0 w bh bm bw bs bsite bi bmp vP vS tv tr N bc bset bp b1 x1 b2 x2 b3 x3) :
  Calls Tryz.prog 27 #[.pointer (some ⟨bh, 0, none⟩), .pointer (some ⟨b1, 0, none⟩), .int .i64 60] w fun e w' => e = .returned (.int .i64 14) ∧ Mid (FA w bm bw tv) w w' bm bw bs bsite bc bset bp b1 x1 (CA bp) 84 true false := by
 have l := t.lts
 have o := t.ord
 have c := t.lc
 refine (go_finish (FA w bm bw tv) w bh bm bw bs bsite x1 b1 bc bset bp tr 2 4 1 (CZ bp) (CA bp) 14 true false (hs_sit t.hs (Below.refl _ w)) (by rw [t.hs.short]; decide) t.m1 t.s1 ⟨t.f _ (by omega) (by omega), t.f _ (by omega) (by omega)⟩ (by omega) ⟨t.cat, rfl, t.f _ (by omega) (by omega), t.f _ (by omega) (by omega), t.f _ (by omega) (by omega)⟩ (by rintro k (rfl | rfl | rfl) <;> omega) t.cell ⟨t.fh, by omega, by omega, by omega, by omega, by omega⟩ (runA ..)).mono ?_
 rintro e w' ⟨rfl, tr', m', h1, h2, h3, h4, h5, h6, h7, h8⟩
 exact ⟨rfl, ⟨tr', h1, by rw [t.hs.short] at h2; exact h2⟩, ⟨m', h3, h4, h5, h6⟩, h7, h8⟩
theorem fin2 (t : Trio w0 w bh bm bw bs bsite bi bmp vP vS tv tr N bc bset bp b1 x1 b2 x2 b3 x3) (M1 : Mid (FA w bm bw tv) w w1 bm bw bs bsite bc bset bp b1 x1 (CA bp) 84 true false) :
  Calls Tryz.prog 27 #[.pointer (some ⟨bh, 0, none⟩), .pointer (some ⟨b2, 0, none⟩), .int .i64 60] w1 fun e w' => e = .returned (.int .i64 5) ∧ Mid (FA w bm bw tv) w1 w' bm bw bs bsite bc bset bp b2 x2 (CB bp) 144 true true := by
 have l := t.lts
 have o := t.ord
 have c := t.lc
 obtain ⟨tr1, s1, l1⟩ := M1.sit
 refine (go_finish (FA w bm bw tv) w1 bh bm bw bs bsite x2 b2 bc bset bp tr1 2 4 1 (CA bp) (CB bp) 5 true true s1 (by omega) (kb M1.keep ⟨t.f _ (by omega) (by omega), by omega, by omega, by omega, by omega, by omega⟩ t.m2) (kb M1.keep ⟨t.f _ (by omega) (by omega), by omega, by omega, by omega, by omega, by omega⟩ t.s2) ⟨t.f _ (by omega) (by omega), t.f _ (by omega) (by omega)⟩ (by omega) M1.cas (by rintro k (rfl | rfl | rfl) <;> omega) (kc M1.keep t.cell ⟨t.fh, by omega, by omega, by omega, by omega, by omega⟩) ⟨t.fh, by omega, by omega, by omega, by omega, by omega⟩ (runB ..)).mono ?_
 rintro e w' ⟨rfl, tr', m', h1, h2, h3, h4, h5, h6, h7, h8⟩
 exact ⟨rfl, ⟨tr', h1, by omega⟩, ⟨m', h3, h4, h5, h6⟩, h7, h8⟩
theorem fin3 (t : Trio w0 w bh bm bw bs bsite bi bmp vP vS tv tr N bc bset bp b1 x1 b2 x2 b3 x3) (M1 : Mid (FA w bm bw tv) w w1 bm bw bs bsite bc bset bp b1 x1 (CA bp) 84 true false) (M2 : Mid (FA w bm bw tv) w1 w2 bm bw bs bsite bc bset bp b2 x2 (CB bp) 144 true true) :
  Calls Tryz.prog 27 #[.pointer (some ⟨bh, 0, none⟩), .pointer (some ⟨b3, 0, none⟩), .int .i64 60] w2 fun e w' => e = .returned (.int .i64 14) ∧ Mid (FA w bm bw tv) w2 w' bm bw bs bsite bc bset bp b3 x3 (CD bp) 204 false false := by
 have l := t.lts
 have o := t.ord
 have c := t.lc
 obtain ⟨tr1, s1, l1⟩ := M2.sit
 have ok : ∀ k, FA w bm bw tv k → (k = bh ∨ k = b3 ∨ k = x3) → (FA w bm bw tv k ∧ k ≠ b1 ∧ k ≠ x1 ∧ k ≠ bc ∧ k ≠ bset ∧ k ≠ bp) ∧ (FA w bm bw tv k ∧ k ≠ b2 ∧ k ≠ x2 ∧ k ≠ bc ∧ k ≠ bset ∧ k ≠ bp) := by
  intro k hk h
  have : k ≠ b1 ∧ k ≠ x1 ∧ k ≠ bc ∧ k ≠ bset ∧ k ≠ bp ∧ k ≠ b2 ∧ k ≠ x2 := by omega
  exact ⟨⟨hk, by omega, by omega, by omega, by omega, by omega⟩, hk, by omega, by omega, by omega, by omega, by omega⟩
 have fb : FA w bm bw tv b3 := t.f _ (by omega) (by omega)
 have fx : FA w bm bw tv x3 := t.f _ (by omega) (by omega)
 refine (go_finish (FA w bm bw tv) w2 bh bm bw bs bsite x3 b3 bc bset bp tr1 3 4 1 (CB bp) (CD bp) 14 false false s1 (by omega) (kb M2.keep (ok _ fb (by simp)).2 (kb M1.keep (ok _ fb (by simp)).1 t.m3)) (kb M2.keep (ok _ fx (by simp)).2 (kb M1.keep (ok _ fx (by simp)).1 t.s3)) ⟨fb, fx⟩ (by omega) M2.cas (by rintro k (rfl | rfl | rfl) <;> omega) (kc M2.keep (kc M1.keep t.cell (ok _ t.fh (by simp)).1) (ok _ t.fh (by simp)).2) ⟨t.fh, by omega, by omega, by omega, by omega, by omega⟩ (runD ..)).mono ?_
 rintro e w' ⟨rfl, tr', m', h1, h2, h3, h4, h5, h6, h7, h8⟩
 exact ⟨rfl, ⟨tr', h1, by omega⟩, ⟨m', h3, h4, h5, h6⟩, h7, h8⟩
theorem fin4 (t : Trio w0 w bh bm bw bs bsite bi bmp vP vS tv tr N bc bset bp b1 x1 b2 x2 b3 x3) (M1 : Mid (FA w bm bw tv) w w1 bm bw bs bsite bc bset bp b1 x1 (CA bp) 84 true false) (M2 : Mid (FA w bm bw tv) w1 w2 bm bw bs bsite bc bset bp b2 x2 (CB bp) 144 true true) (M3 : Mid (FA w bm bw tv) w2 w3 bm bw bs bsite bc bset bp b3 x3 (CD bp) 204 false false) :
  Below w0.heap.size w w3 ∧ (∀ W, Below w3.heap.size w3 W → Calls Tryz.prog 21 #[.pointer (some ⟨b1, 0, none⟩)] W fun e w' => ∃ br pg, e = .returned (.agg #[.bool true, .bool false, .bool br, .int .i64 5, .int .i64 pg]) ∧ Below w3.heap.size w3 w') ∧ (∀ W, Below w3.heap.size w3 W → Calls Tryz.prog 21 #[.pointer (some ⟨b2, 0, none⟩)] W fun e w' => ∃ br pg, e = .returned (.agg #[.bool true, .bool true, .bool br, .int .i64 5, .int .i64 pg]) ∧ Below w3.heap.size w3 w') ∧ (∀ W, Below w3.heap.size w3 W → Calls Tryz.prog 21 #[.pointer (some ⟨b3, 0, none⟩)] W fun e w' => ∃ br pg, e = .returned (.agg #[.bool false, .bool false, .bool br, .int .i64 5, .int .i64 pg]) ∧ Below w3.heap.size w3 w') := by
 have l := t.lts
 have o := t.ord
 have c := t.lc
 have n := t.n0
 have hz : N < w.heap.size := by have h3 : b3 < w.heap.size := (Array.getElem?_eq_some_iff.1 t.m3).1; omega
 obtain ⟨m1, a1, a2, a3, a4⟩ := M1.mach
 obtain ⟨m2, d1, d2, d3, d4⟩ := M2.mach
 obtain ⟨m3, e1, e2, e3, e4⟩ := M3.mach
 have f1 : FA w bm bw tv b1 := t.f _ (by omega) (by omega)
 have f2 : FA w bm bw tv b2 := t.f _ (by omega) (by omega)
 have g1 := kb M3.keep ⟨f1, by omega, by omega, by omega, by omega, by omega⟩ (kb M2.keep ⟨f1, by omega, by omega, by omega, by omega, by omega⟩ a1)
 have g2 := kb M3.keep ⟨f2, by omega, by omega, by omega, by omega, by omega⟩ d1
 have lo : ∀ k, k < w0.heap.size → FA w bm bw tv k := fun k hk => ⟨by omega, (t.hs.lo k hk).1, (t.hs.lo k hk).2.1, (t.hs.lo k hk).2.2⟩
 refine ⟨?_, fun W hb => ?_, fun W hb => ?_, fun W hb => ?_⟩
 ·have q1 := kb_below (B := w0.heap.size) M1.keep (by omega) (fun k hk => ⟨lo k hk, by omega, by omega, by omega, by omega, by omega⟩)
  have q2 := kb_below (B := w0.heap.size) M2.keep (by have := q1.size; omega) (fun k hk => ⟨lo k hk, by omega, by omega, by omega, by omega, by omega⟩)
  have q3 := kb_below (B := w0.heap.size) M3.keep (by have := q1.size; have := q2.size; omega) (fun k hk => ⟨lo k hk, by omega, by omega, by omega, by omega, by omega⟩)
  exact (q1.trans q2).trans q3
 ·exact (ans_go w3 b1 bsite x1 m1 true false g1 a2 a3 a4 W hb).mono fun e w' h => ⟨_, _, h⟩
 ·exact (ans_go w3 b2 bsite x2 m2 true true g2 d2 d3 d4 W hb).mono fun e w' h => ⟨_, _, h⟩
 ·exact (ans_go w3 b3 bsite x3 m3 false false e1 e2 e3 e4 W hb).mono fun e w' h => ⟨_, _, h⟩
end
theorem fld0 (a b c d e : Value) (w : World) : (Instr.field 71 (.agg #[a, b, c, d, e]) 0).run Tryz.prog w = .ok a w := by rfl
theorem fld1 (a b c d e : Value) (w : World) : (Instr.field 71 (.agg #[a, b, c, d, e]) 1).run Tryz.prog w = .ok b w := by rfl
theorem fld3 (a b c d e : Value) (w : World) : (Instr.field 71 (.agg #[a, b, c, d, e]) 3).run Tryz.prog w = .ok d w := by rfl
theorem alive_calls (w : World) : Calls Tryz.prog 5 #[] w fun e w' => e = .returned (.bool true) ∧ Below w.heap.size w w' := by
 have HO := jA (one_calls w)
 go_enter Tryz.func5, Tryz.ntmps5
 go_upto_region 2 with (first | (go_at_call 23; (refine HO.out.mono ?_); rintro e w1 ⟨b, rfl, hp, hb1⟩; have HP := jA hp; have HB1 := jA hb1; have hpv : (pV b).size = 11 := rfl; clear hp hb1) | (go_at_call 22; rw [one_arr b]; (refine (house_calls (w1.alloc (.cells (pV b) 82)) b w1.heap.size (MPol.Pol.In.below HP.out (below_alloc (Below.refl _ w1) _)) (heap_alloc_new w1 _)).mono ?_); rintro e w3 ⟨bh, bm, bw, bs, bsite, bi, bmp, vP, vS, tv, tr, rfl, hs⟩; have HS := jA hs; clear hs))
 have HC := jA (newc_calls w3)
 have HB3 := jA (show Below w.heap.size w w3 from below_then (below_alloc HB1.out (.cells (pV b) 82)) (below_alloc HB1.out (.cells (pV b) 82)).size HS.out.below)
 go_upto_region 5 with (go_at_call 24; (refine HC.out.mono ?_); rintro e w4 ⟨bc, bset, bp, rfl, h1, h2, h3, h4, h5⟩; have HCA := jA (And.intro h1 (And.intro h2 (And.intro h3 h4))); have HB4 := jA h5; clear h1 h2 h3 h4 h5)
 have HE4 := jA (gatehouselaw23_entry.calls bAnn bDoor bOpen w4 rfl)
 go_upto_region 6 with (first | (go_at_call 26; (refine HE4.out.mono ?_); rintro e w5 ⟨rfl, h5⟩; have HB5 := jA h5; clear h5) | (go_at_call 25; (refine (hs_check (hs_to (hs_to HS.out HB4.out) HB5.out) bc bAnn 2 (ok4 _ (by simp)) (by decide +kernel)).mono ?_); rintro e w6 ⟨b1, x1, rfl, h1, h5⟩; have HM1 := jA h1; have HB6 := jA h5; clear h1 h5))
 have HE6 := jA (gatehouselaw23_entry.calls bAnn bDoor bOpen w6 rfl)
 go_upto_region 7 with (first | (go_at_call 26; (refine HE6.out.mono ?_); rintro e w7 ⟨rfl, h5⟩; have HB7 := jA h5; clear h5) | (go_at_call 25; (refine (hs_check (hs_to (hs_to (hs_to (hs_to HS.out HB4.out) HB5.out) HB6.out) HB7.out) bc bAnn 2 (ok4 _ (by simp)) (by decide +kernel)).mono ?_); rintro e w8 ⟨b2, x2, rfl, h1, h5⟩; have HM2 := jA h1; have HB8 := jA h5; clear h1 h5))
 go_upto_region 10 with (go_at_call 25; (refine (hs_check (hs_to (hs_to (hs_to (hs_to (hs_to HS.out HB4.out) HB5.out) HB6.out) HB7.out) HB8.out) bc bBob 3 (ok4 _ (by simp)) (by decide +kernel)).mono ?_); rintro e w9 ⟨b3, x3, rfl, h1, h5⟩; have HM3 := jA h1; have HB9 := jA h5; clear h1 h5)
 have hT : Trio (w1.alloc (.cells (pV b) 82)) w9 bh bm bw bs bsite bi bmp vP vS tv tr w3.heap.size bc bset bp b1 x1 b2 x2 b3 x3 := by
  obtain ⟨p1, p2, p3, p4⟩ := HCA.out
  obtain ⟨r1, r2, r3, r4⟩ := HM1.out
  obtain ⟨s1, s2, s3, s4⟩ := HM2.out
  obtain ⟨t1, t2, t3, t4⟩ := HM3.out
  have z5 := HB5.out.size
  have z6 := HB6.out.size
  have z7 := HB7.out.size
  have z8 := HB8.out.size
  have y1 : b1 < w6.heap.size := (Array.getElem?_eq_some_iff.1 r3).1
  have y2 : b2 < w8.heap.size := (Array.getElem?_eq_some_iff.1 s3).1
  have y3 : bc < w4.heap.size ∧ bset < w4.heap.size ∧ bp < w4.heap.size := cat_lt p4
  exact ⟨hs_to (hs_to (hs_to (hs_to (hs_to (hs_to HS.out HB4.out) HB5.out) HB6.out) HB7.out) HB8.out) HB9.out, HS.out.below.size, hs_lts HS.out, ((((p4.below HB5.out).below HB6.out).below HB7.out).below HB8.out).below HB9.out, ⟨p1, p2, p3⟩, boxB (boxB (boxB r3 HB7.out) HB8.out) HB9.out, boxB (boxB (boxB r4 HB7.out) HB8.out) HB9.out, boxB s3 HB9.out, boxB s4 HB9.out, t3, t4, by omega⟩
 have HT := jA hT
 have HBW := jA (show Below w.heap.size w w9 from bt (bt (bt (bt (bt (bt HB3.out HB4.out) HB5.out) HB6.out) HB7.out) HB8.out) HB9.out)
 have HF1 := jA (fin1 hT)
 clear hT HC HE4 HE6 HM1 HM2 HM3 HB4 HB5 HB6 HB7 HB8 HB9
 go_upto_region 11 with (go_at_call 27; (refine HF1.out.mono ?_); rintro e v1 ⟨rfl, h⟩; have HMid1 := jA h; clear h)
 have HF2 := jA (fin2 HT.out HMid1.out)
 go_upto_region 12 with (go_at_call 27; (refine HF2.out.mono ?_); rintro e v2 ⟨rfl, h⟩; have HMid2 := jA h; clear h)
 have HF3 := jA (fin3 HT.out HMid1.out HMid2.out)
 go_upto_region 13 with (go_at_call 27; (refine HF3.out.mono ?_); rintro e v3 ⟨rfl, h⟩; have HMid3 := jA h; clear h)
 obtain ⟨hbz, hA, hB, hD⟩ := fin4 HT.out HMid1.out HMid2.out HMid3.out
 have HBZ := jA (show Below w.heap.size w v3 from HBW.out.trans (Below.mono hbz (below_alloc HB1.out (.cells (pV b) 82)).size))
 have HA := jA hA
 have HB := jA hB
 have HD := jA hD
 have hb0 : Aside0 (Below v3.heap.size v3 v3) := ⟨Below.refl _ _⟩
 clear hbz hA hB hD HF1 HF2 HF3
 have fl0 := fld0
 have fl1 := fld1
 have fl3 := fld3
 go_wp2_with (first | (go_at_call 21; first | ((refine (HA.out _ hb0.out).mono ?_); rintro e u1 ⟨br1, pg1, rfl, h⟩; have hb1 := jA h; clear h hb0) | ((refine (HB.out _ hb1.out).mono ?_); rintro e u2 ⟨br2, pg2, rfl, h⟩; have hb2 := jA h; clear h hb1) | ((refine (HB.out _ hb2.out).mono ?_); rintro e u3 ⟨br3, pg3, rfl, h⟩; have hb3 := jA h; clear h hb2) | ((refine (HD.out _ hb3.out).mono ?_); rintro e u4 ⟨br4, pg4, rfl, h⟩; have hb4 := jA h; clear h hb3) | ((refine (HD.out _ hb4.out).mono ?_); rintro e u5 ⟨br5, pg5, rfl, h⟩; have hb5 := jA h; clear h hb4)))
 go_ret
 exact ⟨rfl, bt HBZ.out hb5.out⟩
end Go.Proofs.YtdgkppldopiaoaaGreat.RAlive
/- ReaderEnds (gatehouselaw23), walked. -/
namespace Go.Proofs.YtdgkppldopiaoaaGreat.EEnds
open Go.RowKit YtdgkppldopiaoaaGreatW.PrintWords YtdgkppldopiaoaaGreatW.PrintLast YtdgkppldopiaoaaGreatW.PrintMore BMap BRow GDiffer MLines MPol MPut RMem RCells REpoch RMach RSteps RSeek RLook RNum RNew RCache RCget RCput RBegin RVer RKnown RLk RMask RTrace RCheck RRun EStep EWords EEnded RAlive RHouse RIndex RHcheck ROne RPage RPput RLay Go.Maps
open PG
set_option maxHeartbeats 1000000
set_option maxRecDepth 100000
theorem mem_all {F : Nat → Prop} {w : World} {bm bw : Nat} {ws : List Int} {tr : List S115} {bad : Int} {tv : Value} (h : Mem F w bm bw ws tr bad tv) : Mem (FA w bm bw tv) w bm bw ws tr bad tv :=
 { h with row := Kd.R_reok rfl h.row (fun k hk => ⟨(h.row.1 k hk).1, (h.row.1 k hk).2.1, fun q => q.2.2.2 hk.symm⟩), fm := fun q => q.2.1 rfl, fw := fun q => q.2.2.1 rfl, lt := fun k q => q.1 }
structure Fill (B : Nat) (w3 wr : World) (bm bw : Nat) (words : List Int) (i : Nat) (ws : List Int) (tr : List S115) (bad : Int) (tv : Value) : Prop where
 mem : Mem (fun k => k < B) wr bm bw ws tr bad tv
 len : ws.length = words.length
 tl : tr.length ≤ i
 z4 : ws.getD 4 0 = 0
 z5 : ws.getD 5 0 = 0
 rest : ∀ k, i ≤ k → ws.getD k 0 = 0
 one : 1 < i → ws.getD 1 0 = words.getD 1 0
 keep : Keep (fun k => k < B) w3 wr
theorem Fill.skip {B : Nat} {w3 wr : World} {bm bw : Nat} {words : List Int} {i : Nat} {ws : List Int} {tr : List S115} {bad : Int} {tv : Value} (h : Fill B w3 wr bm bw words i ws tr bad tv) (hi : i = 4 ∨ i = 5) : Fill B w3 wr bm bw words (i + 1) ws tr bad tv :=
 { h with tl := Nat.le_succ_of_le h.tl, rest := fun k hk => h.rest k (by omega), one := fun _ => h.one (by omega) }
theorem fill_store {B : Nat} {w3 wr : World} {bm bw : Nat} {words : List Int} {i : Nat} {ws : List Int} {tr : List S115} {bad : Int} {tv : Value} (h : Fill B w3 wr bm bw words i ws tr bad tv) (hi : i < words.length) (hn : i ≠ 4) (hn5 : i ≠ 5) (hs : words.length ≤ 2000) :
  Calls Tryz.prog 15 #[.pointer (some ⟨bm, 0, none⟩), .int .i64 i, .int .i64 (words.getD i 0)] wr fun e w' => e = .returned (.int .i64 0) ∧ ∃ ws' tr' bad' tv', Fill B w3 w' bm bw words (i + 1) ws' tr' bad' tv' := by
 have h0 : ws.getD i 0 = 0 := h.rest i (Nat.le_refl _)
 have hil : i < ws.length := by rw [h.len]; exact hi
 have hp : ws.getD i 0 ≠ poison := by rw [h0]; decide
 have hE : lkE ws (i : Int) = 0 := by unfold lkE; rw [if_neg (by omega), Int.toNat_natCast, if_neg hp]
 refine (store_calls _ wr bm bw ws tr bad tv i (words.getD i 0) h.mem (by have := h.tl; omega)).mono ?_
 rintro e w' ⟨rfl, hD⟩
 obtain ⟨tv', hm⟩ := hD.mem
 refine ⟨by rw [hE], _, _, _, tv', hm, (stW_len _ _ _).trans h.len, by have := h.tl; simp; omega, ?_, ?_, ?_, ?_, h.keep.trans hD.keep⟩
 ·rw [stW_get _ _ _ _ (by omega)]; exact h.z4
 ·rw [stW_get _ _ _ _ (by omega)]; exact h.z5
 ·intro k hk; rw [stW_get _ _ _ _ (by omega)]; exact h.rest k (by omega)
 ·intro h1
  by_cases e : i = 1
  ·subst e; exact stW_hit _ _ _ hil hp
  ·rw [stW_get _ _ _ _ (by omega)]; exact h.one (by omega)
abbrev Cz : Cst := ⟨[], ⟨0, 0, 0, 0⟩⟩
abbrev Sh1 (bm bw bs bsite bx b : Nat) (flaw : Int) : Sh := ⟨bm, bw, bs, bsite, bx, b, 0, flaw, 1, 4, 2⟩
theorem rem_c (bm bw bs bsite bx b : Nat) (flaw x0 x1 x2 : Int) (ws : List Int) (tr : List S115) (bad : Int) : rem flaw ⟨ws, tr, bad, mN 1 flaw x0 x1 x2, 0, 0⟩ ≤ 12299 ∧ Inv flaw ⟨ws, tr, bad, mN 1 flaw x0 x1 x2, 0, 0⟩ ∧ (⟨ws, tr, bad, mN 1 flaw x0 x1 x2, 0, 0⟩ : X).m.next ≠ none := by
 by_cases hf : flaw = 4
 ·have e : (mN 1 flaw x0 x1 x2).next = some 61 := by simp [mN, m0, hf]
  refine ⟨?_, ⟨rfl, ?_, (fun h => by cases h), (fun h => by cases h), (fun _ _ => rfl)⟩, ?_⟩
  ·unfold rem; show remN flaw _ (mN 1 flaw x0 x1 x2).next ≤ _; rw [e]; show (if flaw = 4 then (3 : Int) else 1) + 12296 ≤ _; rw [if_pos hf]; decide
  ·exact .inr (.inr (.inr (.inr (.inr (.inr (.inr (.inr (.inl ⟨e, fun _ => rfl⟩))))))))
  ·show (mN 1 flaw x0 x1 x2).next ≠ none; rw [e]; exact fun h => by cases h
 ·have e : (mN 1 flaw x0 x1 x2).next = some 60 := by simp [mN, m0, hf]
  refine ⟨?_, ⟨rfl, ?_, (fun h => by cases h), (fun h => by cases h), (fun _ _ => rfl)⟩, ?_⟩
  ·unfold rem; show remN flaw _ (mN 1 flaw x0 x1 x2).next ≤ _; rw [e]; show ((2 : Int) - 0) + (if flaw = 4 then (0 : Int) else 1) + 12296 ≤ _; rw [if_neg hf]; decide
  ·exact .inr (.inr (.inr (.inr (.inr (.inr (.inr (.inr (.inr ⟨e, .inl rfl⟩))))))))
  ·show (mN 1 flaw x0 x1 x2).next ≠ none; rw [e]; exact fun h => by cases h
theorem rem_v (flaw : Int) (ws : List Int) (tr : List S115) (bad : Int) : rem flaw ⟨ws, tr, bad, m0 0 flaw, 0, 0⟩ ≤ 5 ∧ Inv flaw ⟨ws, tr, bad, m0 0 flaw, 0, 0⟩ ∧ (⟨ws, tr, bad, m0 0 flaw, 0, 0⟩ : X).m.next ≠ none := by
 by_cases hf : flaw = 4
 ·have e : (m0 0 flaw).next = some 61 := by simp [m0, hf]
  refine ⟨?_, ⟨rfl, ?_, fun _ => rfl, fun _ => rfl, fun _ _ => rfl⟩, ?_⟩
  ·unfold rem; show remN flaw _ (m0 0 flaw).next ≤ _; rw [e]; show (if flaw = 4 then (3 : Int) else 1) + 2 ≤ _; rw [if_pos hf]; decide
  ·exact .inr (.inr (.inr (.inr (.inr (.inr (.inr (.inr (.inl ⟨e, fun _ => rfl⟩))))))))
  ·show (m0 0 flaw).next ≠ none; rw [e]; exact fun h => by cases h
 ·have e : (m0 0 flaw).next = some 60 := by simp [m0, hf]
  refine ⟨?_, ⟨rfl, ?_, fun _ => rfl, fun _ => rfl, fun _ _ => rfl⟩, ?_⟩
  ·unfold rem; show remN flaw _ (m0 0 flaw).next ≤ _; rw [e]; show ((2 : Int) - 0) + (if flaw = 4 then (0 : Int) else 1) + 2 ≤ _; rw [if_neg hf]; decide
  ·exact .inr (.inr (.inr (.inr (.inr (.inr (.inr (.inr (.inr ⟨e, .inl rfl⟩))))))))
  ·show (m0 0 flaw).next ≠ none; rw [e]; exact fun h => by cases h
structure Duo (w0 w : World) (bm bw bs bsite xc bc xv bv : Nat) (flaw x0 x1 x2 : Int) (ws : List Int) (tr : List S115) (bad : Int) (tv : Value) : Prop where
 mem : Mem (FA w bm bw tv) w bm bw ws tr bad tv
 site : SiteAt w bsite bm bs 0 flaw
 slots : SlotsAt w bs bm 1 4 2
 mc : MachAt w bc bsite xc (mN 1 flaw x0 x1 x2)
 sc : SecAt w xc bs 1 0 0
 mv : MachAt w bv bsite xv (m0 0 flaw)
 sv : SecAt w xv bs 0 0 0
 fsite : FA w bm bw tv bsite
 fs : FA w bm bw tv bs
 fbc : FA w bm bw tv bc
 fxc : FA w bm bw tv xc
 fbv : FA w bm bw tv bv
 fxv : FA w bm bw tv xv
 ord : bs < bsite ∧ bsite < xc ∧ xc < bc ∧ bc < xv ∧ xv < bv
 low : ∀ k, k < w0.heap.size → FA w bm bw tv k ∧ k < bs
 len : 6 ≤ ws.length
 short : tr.length ≤ 2000
 below : Below w0.heap.size w0 w
section
variable {w0 w w1 w2 : World} {bm bw bs bsite xc bc xv bv : Nat} {flaw x0 x1 x2 : Int} {ws : List Int} {tr : List S115} {bad : Int} {tv : Value} {cl : Prop} {ns : List Int} {A : Option Addr}
theorem fin_c (d : Duo w0 w bm bw bs bsite xc bc xv bv flaw x0 x1 x2 ws tr bad tv) (nc : Nat) (hns : cl → ∀ v ∈ ns, v ≠ poison) (hcl : cl → ws.getD 1 0 ≠ poison) (h4 : ws.getD 4 0 = 0) (h5 : ws.getD 5 0 = 0) (hA : Nums (fun k => k < w0.heap.size) w A ns) (nL : Nat) (hnL : ns.length = nL) (hlen : nL ≤ 9223372036854775807) :
  Calls Tryz.prog 19 #[.pointer (some ⟨bm, 0, none⟩), .pointer (some ⟨bc, 0, none⟩), .slice A nL nc, .int .i64 12299] w fun e w' => e = .returned (.bool true) ∧ ∃ x', Fin (FA w bm bw tv) (Sh1 bm bw bs bsite xc bc flaw) 0 Cz cl 4 5 12299 w w' ⟨ws, tr, bad, mN 1 flaw x0 x1 x2, 0, 0⟩ x' := by
 have o := d.ord
 obtain ⟨r1, r2, r3⟩ := rem_c bm bw bs bsite xc bc flaw x0 x1 x2 ws tr bad
 exact ended_calls (FA w bm bw tv) (Sh1 bm bw bs bsite xc bc flaw) w ⟨ws, tr, bad, mN 1 flaw x0 x1 x2, 0, 0⟩ 0 Cz 12299 A nc ns cl 4 5 ⟨⟨⟨tv, d.mem⟩, d.site, d.slots, d.mc, d.sc, d.fsite, d.fs, d.fbc, d.fxc, by show bsite ≠ bc; omega, by show bs ≠ bc; omega, by show xc ≠ bc; omega, by show bsite ≠ xc; omega, by show bs ≠ xc; omega, (by decide : (0 : Int) ≤ 1), (by decide : (1 : Int) < 2), by show tr.length ≤ _; have := d.short; omega⟩, fun b e => by cases e⟩ r2 r3 r1 (by decide) (by show tr.length ≤ _; have := d.short; omega) ⟨rfl, rfl, .inl ⟨rfl, rfl⟩⟩
  (fun c => ⟨d.len, hcl c, h4, by show ws.getD 5 0 ≠ poison; rw [h5]; decide, by show (0 : Int) ≠ poison; decide, fun e => absurd e r3, rfl⟩) hns (fun h0 => by
   obtain ⟨ad, e, hk, hc⟩ := hA h0
   exact ⟨ad, e, ⟨(d.low _ hk).1, by show ad.block ≠ bc; have := (d.low _ hk).2; omega, by show ad.block ≠ xc; have := (d.low _ hk).2; omega⟩, hc⟩) nL hnL hlen
theorem fin_v (d : Duo w0 w bm bw bs bsite xc bc xv bv flaw x0 x1 x2 ws tr bad tv) {x' : X} (f : Fin (FA w bm bw tv) (Sh1 bm bw bs bsite xc bc flaw) 0 Cz cl 4 5 12299 w w1 ⟨ws, tr, bad, mN 1 flaw x0 x1 x2, 0, 0⟩ x') (nc : Nat) (hns : cl → ∀ v ∈ ns, v ≠ poison) (hA : Nums (fun k => k < w0.heap.size) w A ns) (nL : Nat) (hnL : ns.length = nL) (hlen : nL ≤ 9223372036854775807) :
  Calls Tryz.prog 19 #[.pointer (some ⟨bm, 0, none⟩), .pointer (some ⟨bv, 0, none⟩), .slice A nL nc, .int .i64 5] w1 fun e w' => e = .returned (.bool true) ∧ ∃ x'', Fin (FA w bm bw tv) (Sh1 bm bw bs bsite xv bv flaw) 0 Cz cl 5 4 5 w1 w' ⟨x'.ws, x'.tr, x'.bad, m0 0 flaw, 0, 0⟩ x'' := by
 have o := d.ord
 obtain ⟨r1, r2, r3⟩ := rem_v flaw x'.ws x'.tr x'.bad
 have kp := f.keep
 have hmv : MachAt w1 bv bsite xv (m0 0 flaw) := kb kp ⟨d.fbv, by show bv ≠ bc; omega, by show bv ≠ xc; omega⟩ d.mv
 have hsv : SecAt w1 xv bs 0 0 0 := kb kp ⟨d.fxv, by show xv ≠ bc; omega, by show xv ≠ xc; omega⟩ d.sv
 have htr : x'.tr.length ≤ 2000 + 24598 := by have h1 : x'.tr.length ≤ tr.length + 2 * 12299 := f.tr_; have h2 := d.short; omega
 exact ended_calls (FA w bm bw tv) (Sh1 bm bw bs bsite xv bv flaw) w1 ⟨x'.ws, x'.tr, x'.bad, m0 0 flaw, 0, 0⟩ 0 Cz 5 A nc ns cl 5 4 ⟨⟨f.ry.rd.mem, f.ry.rd.site, f.ry.rd.slots, hmv, hsv, d.fsite, d.fs, d.fbv, d.fxv, by show bsite ≠ bv; omega, by show bs ≠ bv; omega, by show xv ≠ bv; omega, by show bsite ≠ xv; omega, by show bs ≠ xv; omega, (by decide : (0 : Int) ≤ 0), (by decide : (0 : Int) < 2), by show x'.tr.length ≤ _; omega⟩, fun b e => by cases e⟩ r2 r3 r1 (by decide) (by show x'.tr.length ≤ _; omega) ⟨rfl, rfl, .inr ⟨rfl, rfl⟩⟩
  (fun c => ⟨(f.cl_ c).len, (f.cl_ c).w1, (f.cl_ c).done f.off, by show x'.ws.getD 4 0 ≠ poison; rw [(f.cl_ c).wo]; decide, by show (0 : Int) ≠ poison; decide, fun e => absurd e r3, rfl⟩) hns (fun h0 => by
   obtain ⟨ad, e, hk, hc⟩ := hA h0
   have ho : Out2 (FA w bm bw tv) bc xc ad.block := ⟨(d.low _ hk).1, by have := (d.low _ hk).2; omega, by have := (d.low _ hk).2; omega⟩
   exact ⟨ad, e, ⟨(d.low _ hk).1, by show ad.block ≠ bv; have := (d.low _ hk).2; omega, by show ad.block ≠ xv; have := (d.low _ hk).2; omega⟩, fun i hi => Keep.cell kp (hc i hi) (EEnded.ablk (F := Out2 (FA w bm bw tv) bc xc) ho)⟩) nL hnL hlen
structure End (w0 w2 : World) (bm bc bv : Nat) (cl : Prop) : Prop where
 words : Calls Tryz.prog 20 #[.pointer (some ⟨bm, 0, none⟩), .int .i64 4, .int .i64 2] w2 fun e w' => ∃ A c u v, e = .returned (.tuple #[.slice (some A) 2 c, .int .i64 0]) ∧ (2 : Int) ≤ c ∧ (cl → u = 0 ∧ v = 0) ∧ w'.cell? A = some (.int .i64 u) ∧ w'.cell? (A.add 1) = some (.int .i64 v) ∧ Below w2.heap.size w2 w'
 ansv : ∀ W, Below w2.heap.size w2 W → Calls Tryz.prog 21 #[.pointer (some ⟨bv, 0, none⟩)] W fun e w' => ∃ h b v p, e = .returned (.agg #[.bool false, .bool h, .bool b, .int .i64 v, .int .i64 p]) ∧ Below w2.heap.size w2 w'
 ansc : ∃ al br, (br = true → al = false) ∧ ∀ W, Below w2.heap.size w2 W → Calls Tryz.prog 21 #[.pointer (some ⟨bc, 0, none⟩)] W fun e w' => ∃ h v p, e = .returned (.agg #[.bool al, .bool h, .bool br, .int .i64 v, .int .i64 p]) ∧ Below w2.heap.size w2 w'
 below : Below w0.heap.size w0 w2
theorem fin_end (d : Duo w0 w bm bw bs bsite xc bc xv bv flaw x0 x1 x2 ws tr bad tv) {x' x'' : X} (f : Fin (FA w bm bw tv) (Sh1 bm bw bs bsite xc bc flaw) 0 Cz cl 4 5 12299 w w1 ⟨ws, tr, bad, mN 1 flaw x0 x1 x2, 0, 0⟩ x') (g : Fin (FA w bm bw tv) (Sh1 bm bw bs bsite xv bv flaw) 0 Cz cl 5 4 5 w1 w2 ⟨x'.ws, x'.tr, x'.bad, m0 0 flaw, 0, 0⟩ x'') : End w0 w2 bm bc bv cl := by
 have o := d.ord
 have hmc : MachAt w2 bc bsite xc x'.m := kb g.keep ⟨d.fbc, by show bc ≠ bv; omega, by show bc ≠ xv; omega⟩ f.ry.rd.mach
 have hmv : MachAt w2 bv bsite xv x''.m := g.ry.rd.mach
 have hlen : x''.ws.length = ws.length := g.ws_.trans f.ws_
 have hz : w0.heap.size ≤ w.heap.size := d.below.size
 refine ⟨?_, fun W hb => ?_, ⟨x'.m.al, x'.m.br, f.inv.sane, fun W hb => ?_⟩, ?_⟩
 ·obtain ⟨tv', hM⟩ := g.ry.rd.mem
  refine (words_calls _ w2 bm bw x''.ws x''.tr x''.bad tv' hM (by rw [hlen]; exact d.len)).mono ?_
  rintro e w' ⟨A, c, h1, h2, h3, h4, h5⟩
  exact ⟨A, c, _, _, h1, h2, fun c => ⟨(g.cl_ c).done g.off, (g.cl_ c).wo⟩, h3, h4, h5⟩
 ·refine (answer_calls W bv bsite xv x''.m (boxB hmv hb)).mono ?_
  rintro e w' ⟨rfl, h2⟩
  exact ⟨x''.m.hit, x''.m.br, x''.m.ver, x''.m.page, by rw [ansV, g.inv.chk (g.chk.trans rfl)], below_then hb hb.size h2⟩
 ·refine (answer_calls W bc bsite xc x'.m (boxB hmc hb)).mono ?_
  rintro e w' ⟨rfl, h2⟩
  exact ⟨_, _, _, rfl, below_then hb hb.size h2⟩
 ·have q1 := kb_below (B := w0.heap.size) f.keep hz (fun k hk => ⟨(d.low k hk).1, by show k ≠ bc; have := (d.low k hk).2; omega, by show k ≠ xc; have := (d.low k hk).2; omega⟩)
  have q2 := kb_below (B := w0.heap.size) g.keep (Nat.le_trans hz q1.size) (fun k hk => ⟨(d.low k hk).1, by show k ≠ bv; have := (d.low k hk).2; omega, by show k ≠ xv; have := (d.low k hk).2; omega⟩)
  exact (d.below.trans q1).trans q2
end
end Go.Proofs.YtdgkppldopiaoaaGreat.EEnds
/- ReaderEnds (gatehouselaw23), walked whole. -/
namespace Go.Proofs.YtdgkppldopiaoaaGreat.EMain
open Go.RowKit YtdgkppldopiaoaaGreatW.PrintWords YtdgkppldopiaoaaGreatW.PrintLast YtdgkppldopiaoaaGreatW.PrintMore BMap BRow GDiffer MLines MPol MPut RMem RCells REpoch RMach RSteps RSeek RLook RNum RNew RCache RCget RCput RBegin RVer RKnown RLk RMask RTrace RCheck RRun EStep EWords EEnded EEnds RAlive RHouse RIndex RHcheck ROne RPage RPput RLay Go.Maps
open PG
set_option maxHeartbeats 1000000
set_option maxRecDepth 100000
theorem nums_low {w : World} {A : Option Addr} {n : Nat} {ns : List Int} (h : Kd.C kI w A n ns) : Nums (fun k => k < w.heap.size) w A ns := fun h0 => by
 obtain ⟨ad, rfl, hel⟩ := h.2.2 (by have := h.1; omega)
 have hc : ∀ i, i < ns.length → w.cell? (ad.add i) = some (.int .i64 (ns.getD i 0)) := fun i hi => by
  obtain ⟨c, _, rfl, hc⟩ := hel i _ (List.getElem?_eq_getElem hi)
  have : w.cell? (ad.add (i * 1 + 0)) = _ := hc 0 _ rfl
  rw [List.getD_eq_getElem?_getD, List.getElem?_eq_getElem hi]
  simpa using this
 exact ⟨ad, rfl, World.block_lt_of_cell? w _ (hc 0 h0), hc⟩
theorem Nums.low {B : Nat} {w W : World} {A : Option Addr} {ns : List Int} (h : Nums (fun k => k < B) w A ns) (hb : Below B w W) : Nums (fun k => k < B) W A ns := fun h0 => by
 obtain ⟨ad, rfl, hf, hc⟩ := h h0
 exact ⟨ad, rfl, hf, fun i hi => by rw [hb.cell (EEnded.ablk (F := fun k => k < B) hf)]; exact hc i hi⟩
theorem fill_start {B : Nat} {w3 : World} {bm bw : Nat} {words : List Int} (hM : Mem (fun k => k < B) w3 bm bw (List.replicate words.length 0) [] 0 (.slice none 0 0)) : Fill B w3 w3 bm bw words 0 (List.replicate words.length 0) [] 0 (.slice none 0 0) := by
 have hz : ∀ k, (List.replicate words.length (0 : Int)).getD k 0 = 0 := fun k => by
  rw [List.getD_eq_getElem?_getD, List.getElem?_replicate]
  split <;> rfl
 exact ⟨hM, by simp, Nat.le_refl _, hz 4, hz 5, fun k _ => hz k, fun h => by omega, Keep.refl _ _⟩
theorem mk_duo {w w3 wr w4 w6 w7 : World} {B bm bw bc bv : Nat} {words ws : List Int} {tr : List S115} {bad flaw x0 x1 x2 : Int} {tv : Value} (fl : Fill B w3 wr bm bw words words.length ws tr bad tv) (h6 : 6 ≤ words.length) (hs : words.length ≤ 2000) (hB : w.heap.size ≤ B) (hB3 : B ≤ w3.heap.size) (hbm : B ≤ bm) (hbw : B ≤ bw) (hb3 : Below w.heap.size w w3)
  (hS : SlotsAt w4 wr.heap.size bm 1 4 2) (hb4 : Below wr.heap.size wr w4)
  (hM6 : MachAt w6 bc w4.heap.size (w4.alloc (.cells (siteV bm wr.heap.size 0 flaw) 64)).heap.size (mN 1 flaw x0 x1 x2)) (hX6 : SecAt w6 (w4.alloc (.cells (siteV bm wr.heap.size 0 flaw) 64)).heap.size wr.heap.size 1 0 0) (hl6 : (w4.alloc (.cells (siteV bm wr.heap.size 0 flaw) 64)).heap.size < bc) (hb6 : Below (w4.alloc (.cells (siteV bm wr.heap.size 0 flaw) 64)).heap.size (w4.alloc (.cells (siteV bm wr.heap.size 0 flaw) 64)) w6)
  (hM7 : MachAt w7 bv w4.heap.size w6.heap.size (m0 0 flaw)) (hX7 : SecAt w7 w6.heap.size wr.heap.size 0 0 0) (hl7 : w6.heap.size < bv) (hb7 : Below w6.heap.size w6 w7) :
  Duo w w7 bm bw wr.heap.size w4.heap.size (w4.alloc (.cells (siteV bm wr.heap.size 0 flaw) 64)).heap.size bc w6.heap.size bv flaw x0 x1 x2 ws tr bad tv := by
 have hb5 := below_alloc (Below.refl w4.heap.size w4) (.cells (siteV bm wr.heap.size 0 flaw) 64)
 have hsite := heap_alloc_new w4 (.cells (siteV bm wr.heap.size 0 flaw) 64)
 have hz5 : (w4.alloc (.cells (siteV bm wr.heap.size 0 flaw) 64)).heap.size = w4.heap.size + 1 := Array.size_push _
 generalize hw5 : w4.alloc (.cells (siteV bm wr.heap.size 0 flaw) 64) = w5 at *
 have hbc : bc < w6.heap.size := (Array.getElem?_eq_some_iff.1 hM6).1
 have hbv : bv < w7.heap.size := (Array.getElem?_eq_some_iff.1 hM7).1
 have z4 := hb4.size
 have zs : wr.heap.size < w4.heap.size := (Array.getElem?_eq_some_iff.1 hS).1
 have zr := fl.keep.size
 have e56 := below_then hb5 hb5.size hb6
 have e46 : Below wr.heap.size wr w6 := below_then hb4 hb4.size e56
 have e47 : Below wr.heap.size wr w7 := below_then e46 e46.size hb7
 have e57 : Below w5.heap.size w5 w7 := below_then hb6 hb6.size hb7
 have lm := fl.mem.ltm
 have lw := fl.mem.ltw
 have lo := fun k (hk : tv.ownBlock = some k) => Kd.R_lt fl.mem.row k hk
 have hi : ∀ k, wr.heap.size ≤ k → k < w7.heap.size → FA w7 bm bw tv k := fun k h1 h2 => ⟨h2, by omega, by omega, fun e => by have := lo k e.symm; omega⟩
 have hslots : SlotsAt w7 wr.heap.size bm 1 4 2 := boxB (boxB (boxB hS hb5) hb6) hb7
 refine ⟨mem_all (fl.mem.below e47), boxB (boxB hsite hb6) hb7, hslots, boxB hM6 hb7, boxB hX6 hb7, hM7, hX7, hi _ (by omega) (by omega), hi _ (by omega) (by omega), hi _ (by omega) (by omega), hi _ (by omega) (by omega), hi _ (by omega) (by omega), hi _ (by omega) (by omega), by omega, fun k hk => ⟨⟨by omega, by omega, by omega, fun e => (fl.mem.row.1 k e.symm).2.2 (by omega)⟩, by omega⟩, by rw [fl.len]; exact h6, by have := fl.tl; omega, ?_⟩
 exact (hb3.trans (kb_below (B := w.heap.size) fl.keep (by omega) (fun k hk => by omega))).trans (Below.mono e47 (by have := hb3.size; omega))
theorem fld2 (a b c d e : Value) (w : World) : (Instr.field 71 (.agg #[a, b, c, d, e]) 2).run Tryz.prog w = .ok c w := by rfl
theorem ends_short (w : World) (A1 A2 : Option Addr) (c1 c2 : Nat) (words ns : List Int) (x0 x1 x2 flaw : Int) (hs : words.length < 6 ∨ 2000 < words.length) :
  Calls Tryz.prog 4 #[.slice A1 words.length c1, .slice A2 ns.length c2, .agg #[.int .i64 x0, .int .i64 x1, .int .i64 x2], .int .i64 flaw] w fun e w' => e = .returned (.bool true) ∧ Below w.heap.size w w' := by
 have HB0 := jA (below_alloc (Below.refl w.heap.size w) (.cells #[.int .i64 x0, .int .i64 x1, .int .i64 x2] 31))
 have HA := jA (alive_calls (w.alloc (.cells #[.int .i64 x0, .int .i64 x1, .int .i64 x2] 31)))
 rcases hs with hs | hs
 ·have hs' : (words.length : Int) < 6 := by omega
  clear hs
  go_enter Tryz.func4, Tryz.ntmps4
  go_wp2_with (first | (go_at_call 5; (refine HA.out.mono ?_); rintro e w1 ⟨rfl, hb⟩; have HB := jA hb; clear hb))
  go_ret
  exact ⟨rfl, below_then HB0.out HB0.out.size HB.out⟩
 ·have hs' : (2000 : Int) < (words.length : Int) := by omega
  clear hs
  go_enter Tryz.func4, Tryz.ntmps4
  go_wp2_with (first | (go_at_call 5; (refine HA.out.mono ?_); rintro e w1 ⟨rfl, hb⟩; have HB := jA hb; clear hb))
  go_ret
  exact ⟨rfl, below_then HB0.out HB0.out.size HB.out⟩
theorem ends_calls (w : World) (A1 A2 : Option Addr) (c1 c2 : Nat) (words ns : List Int) (x0 x1 x2 flaw : Int) (h1 : Kd.C kI w A1 words.length words) (h2 : Kd.C kI w A2 ns.length ns) :
  Calls Tryz.prog 4 #[.slice A1 words.length c1, .slice A2 ns.length c2, .agg #[.int .i64 x0, .int .i64 x1, .int .i64 x2], .int .i64 flaw] w fun e w' => e = .returned (.bool true) ∧ Below w.heap.size w w' := by
 by_cases hs : words.length < 6 ∨ 2000 < words.length
 ·exact ends_short w A1 A2 c1 c2 words ns x0 x1 x2 flaw hs
 ·have hl6 : 6 ≤ words.length := by omega
  have hl2 : words.length ≤ 2000 := by omega
  have hi6 : (6 : Int) ≤ (words.length : Int) := by omega
  have hi2 : (words.length : Int) ≤ 2000 := by omega
  have HN1 := jA (nums_low h1)
  have HN2 := jA (nums_low h2)
  have HLN := jA (And.intro h2.1 h2.2.1)
  have HLW := jA (And.intro hl6 hl2)
  have HB0 := jA (below_alloc (Below.refl w.heap.size w) (.cells #[.int .i64 x0, .int .i64 x1, .int .i64 x2] 31))
  have HX0 := jA (heap_alloc_new w (.cells #[.int .i64 x0, .int .i64 x1, .int .i64 x2] 31))
  have HA := jA (alive_calls (w.alloc (.cells #[.int .i64 x0, .int .i64 x1, .int .i64 x2] 31)))
  clear h1 h2 hs hl6 hl2
  go_enter Tryz.func4, Tryz.ntmps4
  go_upto_region 7 with (first | (go_at_call 5; (refine HA.out.mono ?_); rintro e wA ⟨rfl, hb⟩; have HQN := jA (new_calls (fun k => k < wA.heap.size) wA words.length (by have := HLW.out; omega) (by have := HLW.out; omega) (fun _ h => h)); have HB := jA hb; clear hb) | (go_at_call 14; (refine HQN.out.mono ?_); rintro e w3 ⟨rfl, hM, hb⟩; have HM := jA hM; have HB3 := jA hb; clear hM hb))
  have HW3 := jA (show Below w.heap.size w w3 from below_then (below_then HB0.out HB0.out.size HB.out) (Nat.le_trans HB0.out.size HB.out.size) HB3.out)
  have HWA := jA (show w.heap.size + 1 ≤ wA.heap.size by have h1 := HB.out.size; have h2 : (w.alloc (.cells #[.int .i64 x0, .int .i64 x1, .int .i64 x2] 31)).heap.size = w.heap.size + 1 := Array.size_push _; omega)
  have HX3 := jA (boxB (boxB HX0.out HB.out) HB3.out)
  obtain ⟨bm, hbm⟩ : ∃ bm, bm = wA.heap.size + 1 := ⟨_, rfl⟩
  obtain ⟨bw, hbw⟩ : ∃ bw, bw = wA.heap.size := ⟨_, rfl⟩
  obtain ⟨B, hBB⟩ : ∃ B, B = wA.heap.size := ⟨_, rfl⟩
  have HMF : Aside0 (Fill B w3 w3 bm bw words 0 (List.replicate words.length 0) [] 0 (.slice none 0 0)) := ⟨by rw [hBB, hbm, hbw]; exact fill_start HM.out⟩
  rw [← hbm]
  rw [← hBB] at hbm hbw HWA
  have HBB := jA (show w.heap.size + 1 ≤ B ∧ B ≤ w3.heap.size ∧ B ≤ bm ∧ B ≤ bw from ⟨HWA.out, by rw [hBB]; exact HB3.out.size, by omega, by omega⟩)
  clear hbm hbw hBB HM HA HQN HWA
  go_wp2
  go_loopw [12] (fun u wr => ∃ i : Nat, u = .int .i64 i ∧ i ≤ words.length ∧ Aside0 (∃ ws tr bad tv, Fill B w3 wr bm bw words i ws tr bad tv)) (fun u _ => words.length - (intOf u).toNat)
  case atStart => exact ⟨0, rfl, Nat.zero_le _, ⟨_, _, _, _, HMF.out⟩⟩
  case round =>
   obtain ⟨i, rfl, hi, HR⟩ := hrel
   by_cases hlt : i < words.length
   ·have hlt' : (i : Int) < (words.length : Int) := by omega
    by_cases h45 : i = 4 ∨ i = 5
    ·have hge : ¬ ((i : Int) < 4) := by omega
     have hle : ¬ ((i : Int) > 5) := by omega
     go_wp2
     go_roundw
     case rel => exact ⟨i + 1, by go_num, by omega, by obtain ⟨ws, tr, bad, tv, hF⟩ := HR.out; exact ⟨_, _, _, _, hF.skip h45⟩⟩
     case measure => simp [intOf]; omega
    ·obtain ⟨ws, tr, bad, tv, hF⟩ := HR.out
     obtain ⟨ad, hA1, hab, hcl⟩ := HN1.out (by omega)
     have hci : wr.cell? (ad.add i) = some (.int .i64 (words.getD i 0)) := by
      rw [(HW3.out.trans (kb_below (B := w.heap.size) hF.keep (by have := HBB.out; omega) (fun k hk => by have := HBB.out; omega))).cell (EEnded.ablk (F := fun k => k < w.heap.size) hab)]; exact hcl i hlt
     have HST := jA (fill_store hF hlt (by omega) (by omega) HLW.out.2)
     obtain ⟨vi, hvi⟩ : ∃ vi, vi = words.getD i 0 := ⟨_, rfl⟩
     rw [← hvi] at hci HST
     subst hA1
     clear hF hcl hvi hab
     by_cases h4 : i < 4
     ·have h4' : (i : Int) < 4 := by omega
      go_wp2_with (first | (go_at_call 15; (refine HST.out.mono ?_); rintro e w5 ⟨rfl, hF5⟩; have HF5 := jA hF5; clear hF5))
      go_roundw
      case rel => exact ⟨i + 1, by go_num, by omega, HF5⟩
      case measure => simp [intOf]; omega
     ·have h4' : ¬ ((i : Int) < 4) := by omega
      have h5' : (i : Int) > 5 := by omega
      go_wp2_with (first | (go_at_call 15; (refine HST.out.mono ?_); rintro e w5 ⟨rfl, hF5⟩; have HF5 := jA hF5; clear hF5))
      go_roundw
      case rel => exact ⟨i + 1, by go_num, by omega, HF5⟩
      case measure => simp [intOf]; omega
   ·obtain rfl : i = words.length := by omega
    obtain ⟨ws, tr, bad, tv, hF⟩ := HR.out
    have HF := jA hF
    have HQE := jA (epoch_new _ wr bm bw ws tr bad tv 1 4 2 hF.mem (by decide) (by decide) (by decide) (by rw [hF.len]; have := HLW.out; omega) (by decide) (by rw [hF.len]; have := HLW.out; omega) (.inl (by decide)))
    have hkb := kb_below (B := B) hF.keep (by have := HBB.out; omega) (fun k hk => hk)
    have HKB := jA hkb
    clear hF hkb hlt HR
    go_upto_region 15 with (first | (go_at_call 16; (refine HQE.out.mono ?_); rintro e w4 ⟨rfl, hS, hb⟩; have HS := jA hS; have HB4 := jA hb; clear hS hb))
    have hsite := heap_alloc_new w4 (.cells (siteV bm wr.heap.size 0 flaw) 64)
    have HB5 := jA (below_alloc (Below.refl w4.heap.size w4) (.cells (siteV bm wr.heap.size 0 flaw) 64))
    have HSI := jA hsite
    have HS5 := jA (boxB HS.out HB5.out)
    have HQC := jA (check_nil (w4.alloc (.cells (siteV bm wr.heap.size 0 flaw) 64)) w4.heap.size bm wr.heap.size 0 flaw 1 4 2 1 x0 x1 x2 hsite HS5.out (by decide) (by decide))
    have hx3 : w3.heap.size ≤ wr.heap.size ∧ w.heap.size < B ∧ B ≤ w3.heap.size := ⟨HF.out.keep.size, by have := HBB.out; omega, by have := HBB.out; omega⟩
    have hx5 : (w4.alloc (.cells (siteV bm wr.heap.size 0 flaw) 64)).heap[w.heap.size]? = some (.cells #[.int .i64 x0, .int .i64 x1, .int .i64 x2] 31 (0, 0)) := by
     have q1 : wr.heap[w.heap.size]? = _ := (HKB.out.block _ hx3.2.1).trans HX3.out
     exact (HB5.out.block _ (by have := HB4.out.size; omega)).trans ((HB4.out.block _ (by omega)).trans q1)
    have cx0 := cellOf hx5 0 (.int .i64 x0) rfl
    have cx1 := cellOf hx5 1 (.int .i64 x1) rfl
    have cx2 := cellOf hx5 2 (.int .i64 x2) rfl
    clear hsite hx3 hx5
    go_upto_region 17 with (first | (go_at_call 17; (refine HQC.out.mono ?_); rintro e w6 ⟨bc, rfl, hl, hm, hx, hb⟩; have HQV := jA (version_calls w6 w4.heap.size bm wr.heap.size 0 flaw 1 4 2 0 (boxB HSI.out hb) (boxB HS5.out hb) (by decide) (by decide)); have HL6 := jA hl; have HM6 := jA hm; have HX6 := jA hx; have HB6 := jA hb; clear hl hm hx hb))
    go_upto_region 18 with (first | (go_at_call 18; (refine HQV.out.mono ?_); rintro e w7 ⟨bv, rfl, hl, hm, hx, hb⟩; have HL7 := jA hl; have HM7 := jA hm; have HX7 := jA hx; have HB7 := jA hb; clear hl hm hx hb))
    have hduo := mk_duo (w := w) HF.out HLW.out.1 HLW.out.2 (by have := HBB.out; omega) (by have := HBB.out; omega) (by have := HBB.out; omega) (by have := HBB.out; omega) HW3.out HS.out HB4.out HM6.out HX6.out HL6.out HB6.out HM7.out HX7.out HL7.out HB7.out
    have HD := jA hduo
    have HN27 := jA (Nums.low HN2.out hduo.below)
    obtain ⟨ad, hA1, hab, hcl⟩ := HN1.out (by have := HLW.out; omega)
    have hc1 : w7.cell? (ad.add 1) = some (.int .i64 (words.getD 1 0)) := by rw [hduo.below.cell (EEnded.ablk (F := fun k => k < w.heap.size) hab)]; exact hcl 1 (by have := HLW.out; omega)
    obtain ⟨v1, hv1⟩ : ∃ v1, v1 = words.getD 1 0 := ⟨_, rfl⟩
    have HV1 := jA (show ws.getD 1 0 = v1 by rw [hv1]; exact HF.out.one (by have := HLW.out; omega))
    have HZ := jA (And.intro HF.out.z4 HF.out.z5)
    rw [← hv1] at hc1
    have hc1b : w7.cell? ⟨ad.block, ad.off + 1, none⟩ = some (.int .i64 v1) := hc1
    subst hA1
    obtain ⟨bs, hbs⟩ : ∃ bs, bs = wr.heap.size := ⟨_, rfl⟩
    obtain ⟨bsite, hbsite⟩ : ∃ bsite, bsite = w4.heap.size := ⟨_, rfl⟩
    obtain ⟨xc, hxc⟩ : ∃ xc, xc = (w4.alloc (.cells (siteV bm wr.heap.size 0 flaw) 64)).heap.size := ⟨_, rfl⟩
    obtain ⟨xv, hxv⟩ : ∃ xv, xv = w6.heap.size := ⟨_, rfl⟩
    rw [← hbs, ← hbsite] at HD
    clear hduo hcl hv1 hab cx0 cx1 cx2 HQC HQV HQE HM6 HX6 HB6 HL6 HM7 HX7 HB7 HL7
    go_wp2
    go_loopw [18, 19] (fun u8 u9 wz => ∃ (j : Nat) (b : Bool), u8 = .bool b ∧ u9 = .int .i64 j ∧ j ≤ ns.length ∧ wz = w7 ∧ Aside0 (b = true → v1 ≠ poison ∧ ∀ i, i < j → ns.getD i 0 ≠ poison)) (fun _ u _ => ns.length - (intOf u).toNat)
    case atStart => exact ⟨0, _, rfl, rfl, Nat.zero_le _, by first | rfl | trivial, ⟨fun h => ⟨by simpa [poison] using h, fun i hi => by omega⟩⟩⟩
    case round =>
     obtain ⟨j, b, rfl, rfl, hj, rfl, HP⟩ := hrel
     have hnl : (ns.length : Int) ≤ 9223372036854775807 := by have := HLN.out.2; omega
     by_cases hlt : j < ns.length
     ·have hlt' : (j : Int) < (ns.length : Int) := by omega
      obtain ⟨ad2, hA2, _, hcl2⟩ := HN27.out (by omega)
      have hcj := hcl2 j hlt
      obtain ⟨vj, hvj⟩ : ∃ vj, Aside0 (ns.getD j 0 = vj) := ⟨_, ⟨rfl⟩⟩
      rw [hvj.out] at hcj
      subst hA2
      clear hcl2
      cases b with
      | false =>
       go_wp2
       go_roundw
       case rel => exact ⟨j + 1, false, rfl, by go_num, by omega, by first | rfl | trivial, ⟨fun h => by cases h⟩⟩
       case measure => simp [intOf]; omega
      | true =>
       by_cases hp : vj = -4611686018427387904
       ·go_wp2
        go_roundw
        case rel => exact ⟨j + 1, false, rfl, by go_num, by omega, by first | rfl | trivial, ⟨fun h => by cases h⟩⟩
        case measure => simp [intOf]; omega
       ·go_wp2
        go_roundw
        case rel => exact ⟨j + 1, true, congrArg Value.bool (bne_iff_ne.2 hp), by go_num, by omega, by first | rfl | trivial, ⟨fun _ => ⟨(HP.out rfl).1, fun i hi => by
         by_cases e : i = j
         ·rw [e, hvj.out]; exact hp
         ·exact (HP.out rfl).2 i (by omega)⟩⟩⟩
        case measure => simp [intOf]; omega
     ·obtain rfl : j = ns.length := by omega
      have hns : b = true → ∀ v ∈ ns, v ≠ poison := fun h v hv => by
       obtain ⟨i, hi, rfl⟩ := List.getElem_of_mem hv
       have := (HP.out h).2 i hi
       rw [List.getD_eq_getElem?_getD, List.getElem?_eq_getElem hi] at this
       exact this
      have HNSP := jA hns
      have HFC := jA (fin_c (cl := b = true) HD.out c2 hns (fun h => by rw [HV1.out]; exact (HP.out h).1) HZ.out.1 HZ.out.2 HN27.out ns.length rfl HLN.out.2)
      clear hns hlt
      go_upto_region 26 with (first | (go_at_call 19; (refine HFC.out.mono ?_); rintro e z1 ⟨rfl, x', hfin⟩; have HG1 := jA hfin; have HFV := jA (fin_v HD.out hfin c2 HNSP.out HN27.out ns.length rfl HLN.out.2); clear hfin))
      go_upto_region 27 with (first | (go_at_call 19; (refine HFV.out.mono ?_); rintro e z2 ⟨rfl, x'', hfin⟩; have HE := jA (fin_end HD.out HG1.out hfin); clear hfin))
      obtain ⟨al, br, hsane, hans⟩ := HE.out.ansc
      have HSANE := jA hsane
      have HCA := jA hans
      have HVA := jA HE.out.ansv
      have HEB := jA HE.out.below
      have HEZ := jA HE.out.below.size
      clear hsane hans HFC HFV HG1
      cases b with
      | false =>
       have h21 := fld2
       have h20 := fld0
       cases br with
       | false =>
        go_wp2_with (first | (go_at_call 20; (refine HE.out.words.mono ?_); rintro e y1 ⟨Aw, cw, uw, vw, rfl, hcw, hclw, hu, hv, hb⟩; have hu0 := hu; rw [← show Aw.add 0 = Aw from rfl] at hu0; have hv0 : y1.cell? ⟨Aw.block, Aw.off + 1, none⟩ = _ := hv; have hbz := jA hb; clear hb) | (go_at_call 21; first | ((refine (HVA.out _ hbz.out).mono ?_); rintro e u1 ⟨hh, bb, vv, pp, rfl, h⟩; have hbz := jA h; clear h) | ((refine (HCA.out _ hbz.out).mono ?_); rintro e u1 ⟨hh2, vv2, pp2, rfl, h⟩; have hbz := jA h; clear h)))
        go_ret
        exact ⟨rfl, HEB.out.trans (Below.mono hbz.out HEZ.out)⟩
       | true =>
        obtain rfl := HSANE.out rfl
        go_wp2_with (first | (go_at_call 20; (refine HE.out.words.mono ?_); rintro e y1 ⟨Aw, cw, uw, vw, rfl, hcw, hclw, hu, hv, hb⟩; have hu0 := hu; rw [← show Aw.add 0 = Aw from rfl] at hu0; have hv0 : y1.cell? ⟨Aw.block, Aw.off + 1, none⟩ = _ := hv; have hbz := jA hb; clear hb) | (go_at_call 21; first | ((refine (HVA.out _ hbz.out).mono ?_); rintro e u1 ⟨hh, bb, vv, pp, rfl, h⟩; have hbz := jA h; clear h) | ((refine (HCA.out _ hbz.out).mono ?_); rintro e u1 ⟨hh2, vv2, pp2, rfl, h⟩; have hbz := jA h; clear h)))
        go_ret
        exact ⟨rfl, HEB.out.trans (Below.mono hbz.out HEZ.out)⟩
      | true =>
       have h21 := fld2
       have h20 := fld0
       cases br with
       | false =>
        go_wp2_with (first | (go_at_call 20; (refine HE.out.words.mono ?_); rintro e y1 ⟨Aw, cw, uw, vw, rfl, hcw, hclw, hu, hv, hb⟩; obtain ⟨rfl, rfl⟩ := hclw rfl; have hu0 := hu; rw [← show Aw.add 0 = Aw from rfl] at hu0; have hv0 : y1.cell? ⟨Aw.block, Aw.off + 1, none⟩ = _ := hv; have hbz := jA hb; clear hb) | (go_at_call 21; first | ((refine (HVA.out _ hbz.out).mono ?_); rintro e u1 ⟨hh, bb, vv, pp, rfl, h⟩; have hbz := jA h; clear h) | ((refine (HCA.out _ hbz.out).mono ?_); rintro e u1 ⟨hh2, vv2, pp2, rfl, h⟩; have hbz := jA h; clear h)))
        go_ret
        exact ⟨rfl, HEB.out.trans (Below.mono hbz.out HEZ.out)⟩
       | true =>
        obtain rfl := HSANE.out rfl
        go_wp2_with (first | (go_at_call 20; (refine HE.out.words.mono ?_); rintro e y1 ⟨Aw, cw, uw, vw, rfl, hcw, hclw, hu, hv, hb⟩; obtain ⟨rfl, rfl⟩ := hclw rfl; have hu0 := hu; rw [← show Aw.add 0 = Aw from rfl] at hu0; have hv0 : y1.cell? ⟨Aw.block, Aw.off + 1, none⟩ = _ := hv; have hbz := jA hb; clear hb) | (go_at_call 21; first | ((refine (HVA.out _ hbz.out).mono ?_); rintro e u1 ⟨hh, bb, vv, pp, rfl, h⟩; have hbz := jA h; clear h) | ((refine (HCA.out _ hbz.out).mono ?_); rintro e u1 ⟨hh2, vv2, pp2, rfl, h⟩; have hbz := jA h; clear h)))
        go_ret
        exact ⟨rfl, HEB.out.trans (Below.mono hbz.out HEZ.out)⟩
end Go.Proofs.YtdgkppldopiaoaaGreat.EMain
