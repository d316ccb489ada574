/- Of this session's texts, what the row uses: ORef, OBig, OWhole, OGrow, QRoomB, PGx39, PGx40, QRoom. -/
import Derived.Deep.DeepCutAuto
import Derived.Test.YthaiodklfoegiaaZ5
import Derived.Test.YthaiodklfoegiaaZ1
set_option linter.unusedSimpArgs false
set_option linter.unusedVariables false
set_option maxHeartbeats 8000000
set_option maxRecDepth 100000
/- gatehouseref11.Compile, walked: the document's graph. -/
namespace Go.Proofs.Ythaiodklfoegiaa.ORef
open Go.RowKit YthaiodklfoegiaaW.PrintWords YthaiodklfoegiaaW.PrintLast YthaiodklfoegiaaW.PrintMore BRow GDiffer CPure RPure CSame DTab GValid MSide MPol OBase COwn Go.Maps
open PG
theorem all_snoc {P : Nat → Value → Prop} {hs : List Value} {x : Value} (h : ∀ j v, hs[j]? = some v → P j v) (hx : P hs.length x) : ∀ j v, (hs ++ [x])[j]? = some v → P j v := by
 intro j v hj
 by_cases hl : j < hs.length
 ·rw [List.getElem?_append_left hl] at hj
  exact h j v hj
 ·rw [List.getElem?_append_right (by omega)] at hj
  have hk : j - hs.length = 0 := by
   cases hk : j - hs.length with
   | zero => rfl
   | succ n => rw [hk] at hj; simp at hj
  rw [hk] at hj
  have hv : x = v := by simpa using hj
  have : j = hs.length := by omega
  subst this; subst hv; exact hx
theorem col_stay {w w1 : World} {b b' : Nat} {ok ok' : Nat → Prop} {v u : Value} {xs : List Int} {L : List (List Value)} (h : Kd.R (Kd.int .u16) 31 w b ok v xs) (hraw : Kd.R (Kd.raw 1) 32 w b' ok' u L) (hg : w.grownBy w1 u.ownBlock) : Kd.R (Kd.int .u16) 31 w1 b ok v xs :=
 R_stay rfl h (fun k hk hlt => hg.block k hlt (fun e => ap_types h hraw (by decide) k hk e.symm))
theorem rows_C {W : World} {A : Option Addr} {n c b : Nat} {ok : Nat → Prop} {hs : List Value} {ls : List (List Int)} (h : Kd.R (Kd.raw 1) 32 W b ok (.slice A n c) (hs.map hd1)) (hl : hs.length = ls.length) (hK : ∀ j v, hs[j]? = some v → kLs.K W (ls.getD j []) [v]) : n = ls.length ∧ n ≤ c ∧ kLs.C W A ls.length ls := by
 obtain ⟨h1, h2, h3⟩ := Kd.R_reads' h
 rw [List.length_map] at h1
 refine ⟨by omega, h2, ?_⟩
 refine C_of_raw (d := kLs) (by rw [show ls.length = (hs.map hd1).length by rw [List.length_map, hl]]; exact h3) (by rw [List.length_map, hl]) (fun j x cc hx hc => ?_)
 rw [List.getElem?_map] at hc
 obtain ⟨v, hv, rfl⟩ := Option.map_eq_some_iff.1 hc
 have := hK j v hv
 rw [List.getD_eq_getElem?_getD, hx] at this
 exact this
theorem K_below' {W W1 : World} {x : List Int} {v : Value} (h : kLs.K W x [v]) (hb : Below W.heap.size W W1) : kLs.K W1 x [v] := kLs.K_below hb h
theorem K_of_R {W : World} {b : Nat} {ok : Nat → Prop} {v : Value} {xs : List Int} (h : Kd.R (Kd.int .u16) 31 W b ok v xs) : kLs.K W xs [v] := by
 obtain ⟨A, c, rfl, hl, hC⟩ := Kd.R_reads h
 exact ⟨A, c, rfl, hl, hC⟩
def HasD (d : PolD) (g : G) : Prop := g.la = d.acts ∧ g.ls = d.subs.map (·.f0) ∧ g.lo = d.objs ∧ g.of = ofM d.subs.length d.objs.length (matD d) ∧ g.on = ofM d.objs.length d.subs.length (fun j i => matD d i j) ∧ g.ms = masksM d.subs.length d.objs.length (matD d)
theorem below_le {B C : Nat} {w W : World} (h : Below B w W) (hl : C ≤ B) : Below C w W := ⟨h.os, h.tape, h.output, h.size, fun k hk => h.block k (by omega)⟩
theorem set_below {B : Nat} {w0 w : World} {g j : Nat} {v : Value} (h : Below B w0 w) (hg : B ≤ g) : Below B w0 (w.setCell ⟨g, j, none⟩ v) :=
 ⟨h.os, h.tape, h.output, by simpa [World.setCell] using h.size, fun k hk => (heap_setCell_other w ⟨g, j, none⟩ k v (fun e => by have e : k = g := e; omega)).trans (h.block k hk)⟩
theorem in_of {w : World} {g : G} {hs : List Value} {b0 b1 b2 b3 b4 b5 b6 : Nat} {o0 o1 o2 o3 o4 o5 : Nat → Prop} (h0 : Kd.R Kd.string 9 w b0 o0 (.slice g.A0 g.la.length g.c0) g.la) (h1 : Kd.R Kd.string 9 w b1 o1 (.slice g.A1 g.ls.length g.c1) g.ls) (h2 : Kd.R Kd.string 9 w b2 o2 (.slice g.A2 g.lo.length g.c2) g.lo) (h3 : Kd.R (Kd.int .i64) 3 w b3 o3 (.slice g.A3 g.of.length g.c3) g.of) (h4 : Kd.R (Kd.int .i64) 3 w b4 o4 (.slice g.A4 g.on.length g.c4) g.on) (h5 : Kd.R (Kd.raw 1) 32 w b5 o5 (.slice g.A5 g.ms.length g.c5) (hs.map hd1)) (hr : Rws w b6 hs g.ms) (hu : ∀ row ∈ g.ms, ∀ x ∈ row, (Lit.int .u16 x).wf = true) : g.In w := by
 have p0 := Kd.R_reads' h0
 have p1 := Kd.R_reads' h1
 have p2 := Kd.R_reads' h2
 have p3 := Kd.R_reads' h3
 have p4 := Kd.R_reads' h4
 have p5 := Kd.R_reads' h5
 have hl : (hs.map hd1).length = g.ms.length := by rw [List.length_map]; exact hr.len
 have h5 := C_of_raw (d := Kd.slice 31 (Kd.int .u16)) (xs := g.ms) p5.2.2 hl (hr.K)
 rw [hl] at h5
 exact ⟨p0.2.2, p1.2.2, p2.2.2, p3.2.2, p4.2.2, h5, p0.2.1, p1.2.1, p2.2.1, p3.2.1, p4.2.1, p5.2.1, hu⟩
theorem ref_calls (p : Pol) (w : World) (hp : p.In w) (hF : Fit p.d) : Calls Try.prog 14 #[.agg p.cells] w fun e w' => ∃ g : G, e = .returned g.val ∧ g.In w' ∧ HasD p.d g ∧ Below w.heap.size w w' := by
 obtain ⟨d, A0, c0, A1, c1, A2, c2, A3, c3, A4, c4, A5, c5, A6, c6, A7, c7, A8, c8, A9, c9, A10, c10⟩ := p
 have HP := jA hp
 have HF := jA hF
 have hs := hF.subs
 have ho := hF.objs
 have ha := hF.acts
 have hs : d.subs.length ≤ 64 := hs
 have ho : d.objs.length ≤ 64 := ho
 have ha : d.acts.length ≤ 16 := ha
 clear hp hF
 have Zd : Stays (w.alloc (.cells (Pol.cells (Pol.mk d A0 c0 A1 c1 A2 c2 A3 c3 A4 c4 A5 c5 A6 c6 A7 c7 A8 c8 A9 c9 A10 c10)) 39)) w.heap.size (Pol.cells (Pol.mk d A0 c0 A1 c1 A2 c2 A3 c3 A4 c4 A5 c5 A6 c6 A7 c7 A8 c8 A9 c9 A10 c10)) 39 := heap_alloc_new w _
 have e0 := Zd.cell 0
 have e1 := Zd.cell 1
 have e3 := Zd.cell 3
 simp only [Pol.cells, Jt, Ju, Jv] at e0 e1 e3
 have HST := jA Zd
 clear Zd
 unfold Pol.cells
 unfold Pol.cells at HST
 simp only [] at HST e0 e1 e3 ⊢
 have hz := z26
 go_enter Try.func14, Try.ntmps14
 go_upto_region 3 with fail
 clear hz e0 e1 e3
 have hW0s : Stays ((w.alloc (.cells #[.slice A0 d.acts.length c0, .slice A1 d.subs.length c1, .slice A2 d.roles.length c2, .slice A3 d.objs.length c3, .slice A4 d.grps.length c4, .slice A5 d.mem.length c5, .slice A6 d.inh.length c6, .slice A7 d.par.length c7, .slice A8 d.wit.length c8, .slice A9 d.rules.length c9, .slice A10 d.exc.length c10] 39)).alloc (.cells #[.slice none 0 0, .slice none 0 0, .slice none 0 0, .slice none 0 0, .slice none 0 0, .slice none 0 0] 26)) w.heap.size #[.slice A0 d.acts.length c0, .slice A1 d.subs.length c1, .slice A2 d.roles.length c2, .slice A3 d.objs.length c3, .slice A4 d.grps.length c4, .slice A5 d.mem.length c5, .slice A6 d.inh.length c6, .slice A7 d.par.length c7, .slice A8 d.wit.length c8, .slice A9 d.rules.length c9, .slice A10 d.exc.length c10] 39 := HST.out.below (below_alloc (Below.refl _ _) _)
 have hW0v : Stays ((w.alloc (.cells #[.slice A0 d.acts.length c0, .slice A1 d.subs.length c1, .slice A2 d.roles.length c2, .slice A3 d.objs.length c3, .slice A4 d.grps.length c4, .slice A5 d.mem.length c5, .slice A6 d.inh.length c6, .slice A7 d.par.length c7, .slice A8 d.wit.length c8, .slice A9 d.rules.length c9, .slice A10 d.exc.length c10] 39)).alloc (.cells #[.slice none 0 0, .slice none 0 0, .slice none 0 0, .slice none 0 0, .slice none 0 0, .slice none 0 0] 26)) (w.heap.size + 1) #[.slice none 0 0, .slice none 0 0, .slice none 0 0, .slice none 0 0, .slice none 0 0, .slice none 0 0] 26 := by
  have h := heap_alloc_new (w.alloc (.cells #[.slice A0 d.acts.length c0, .slice A1 d.subs.length c1, .slice A2 d.roles.length c2, .slice A3 d.objs.length c3, .slice A4 d.grps.length c4, .slice A5 d.mem.length c5, .slice A6 d.inh.length c6, .slice A7 d.par.length c7, .slice A8 d.wit.length c8, .slice A9 d.rules.length c9, .slice A10 d.exc.length c10] 39)) (.cells #[.slice none 0 0, .slice none 0 0, .slice none 0 0, .slice none 0 0, .slice none 0 0, .slice none 0 0] 26)
  rw [show (w.alloc (.cells #[.slice A0 d.acts.length c0, .slice A1 d.subs.length c1, .slice A2 d.roles.length c2, .slice A3 d.objs.length c3, .slice A4 d.grps.length c4, .slice A5 d.mem.length c5, .slice A6 d.inh.length c6, .slice A7 d.par.length c7, .slice A8 d.wit.length c8, .slice A9 d.rules.length c9, .slice A10 d.exc.length c10] 39)).heap.size = w.heap.size + 1 from Array.size_push ..] at h
  exact h
 have hW0b : Below w.heap.size w ((w.alloc (.cells #[.slice A0 d.acts.length c0, .slice A1 d.subs.length c1, .slice A2 d.roles.length c2, .slice A3 d.objs.length c3, .slice A4 d.grps.length c4, .slice A5 d.mem.length c5, .slice A6 d.inh.length c6, .slice A7 d.par.length c7, .slice A8 d.wit.length c8, .slice A9 d.rules.length c9, .slice A10 d.exc.length c10] 39)).alloc (.cells #[.slice none 0 0, .slice none 0 0, .slice none 0 0, .slice none 0 0, .slice none 0 0, .slice none 0 0] 26)) := below_alloc (below_alloc (Below.refl _ _) _) _
 obtain ⟨W0, hW0⟩ : ∃ W0, W0 = ((w.alloc (.cells #[.slice A0 d.acts.length c0, .slice A1 d.subs.length c1, .slice A2 d.roles.length c2, .slice A3 d.objs.length c3, .slice A4 d.grps.length c4, .slice A5 d.mem.length c5, .slice A6 d.inh.length c6, .slice A7 d.par.length c7, .slice A8 d.wit.length c8, .slice A9 d.rules.length c9, .slice A10 d.exc.length c10] 39)).alloc (.cells #[.slice none 0 0, .slice none 0 0, .slice none 0 0, .slice none 0 0, .slice none 0 0, .slice none 0 0] 26)) := ⟨_, rfl⟩
 obtain ⟨gv, hgv⟩ : ∃ gv, gv = w.heap.size + 1 := ⟨_, rfl⟩
 rw [← hW0] at hW0s hW0v hW0b ⊢
 rw [← hgv] at hW0v ⊢
 have HGV := jA (show w.heap.size < gv by omega)
 have HB0 := jA hW0s
 have HV0 := jA hW0v
 have HW0 := jA hW0b
 clear hW0s hW0v hW0b hW0 hgv HST
 have TB0 := table_go (Pol.mk d A0 c0 A1 c1 A2 c2 A3 c3 A4 c4 A5 c5 A6 c6 A7 c7 A8 c8 A9 c9 A10 c10) W0 (HP.out.below HW0.out) HF.out
 simp only [Pol.cells] at TB0
 have TB := jA TB0
 clear TB0
 go_upto_region 4 with (first
  | ((with_reducible refine gate_dst (N := 33) rfl ?_); refine wpList_load_blk rfl 39 (.tmp 1) rfl w.heap.size ?hx #[.slice A0 d.acts.length c0, .slice A1 d.subs.length c1, .slice A2 d.roles.length c2, .slice A3 d.objs.length c3, .slice A4 d.grps.length c4, .slice A5 d.mem.length c5, .slice A6 d.inh.length c6, .slice A7 d.par.length c7, .slice A8 d.wit.length c8, .slice A9 d.rules.length c9, .slice A10 d.exc.length c10] 39 HB0.out _ Try.underlying39 rfl (by kernel_rfl) ?_; (case hx => rfl))
  | (go_at_call 41; (with_reducible refine TB.out.mono ?_); rintro e Wt ⟨At, ct, rfl, hct, hC, hb⟩; have HCt := jA hC; have HCT := jA hct; have HT := jA hb; clear hC hct hb))
 obtain ⟨tab, htab⟩ : ∃ tab, tab = tabD d := ⟨_, rfl⟩
 have HTL := jA (show tab.length = d.subs.length by rw [htab, tab_len])
 have HTR := jA (show ∀ r ∈ tab, r.length = d.objs.length from fun r hr => tab_row (htab ▸ hr))
 rw [← htab] at HCt
 have HTD := jA htab
 have HBX := jA (fun (W : World) (hb : Below Wt.heap.size Wt W) => ((HB0.out.below HT.out).below hb))
 have HVX := jA (fun (W : World) (hb : Below Wt.heap.size Wt W) => ((HV0.out.below HT.out).below hb))
 have HBt := jA (Below.refl Wt.heap.size Wt)
 clear htab TB
 go_wp2
 go_loopw [4, 5] (fun u4 u5 wr => ∃ (i : Nat) (hs : List Value), i ≤ d.subs.length ∧ u5 = .int .i64 i ∧ Aside0 (hs.length = i) ∧ Aside0 (∀ j v, hs[j]? = some v → kLs.K Wt (tab.getD j []) [v]) ∧ Aside0 (Kd.R (Kd.raw 1) 32 wr Wt.heap.size (fun _ => True) u4 (hs.map hd1)) ∧ Aside0 (Below Wt.heap.size Wt wr)) (fun _ u5 _ => d.subs.length - (intOf u5).toNat)
 case atStart => exact ⟨0, [], by omega, rfl, ⟨rfl⟩, ⟨by simp⟩, ⟨Kd.R_nil _ _ _ _ _⟩, HBt⟩
 case round =>
  obtain ⟨i, hs, hi, rfl, HN, HK, HR, HB⟩ := hrel
  have x1 := (HBX.out _ HB.out).cell 1
  simp only [Jt, Ju, Jv] at x1
  by_cases hlt : i < d.subs.length
  ·have hlt' : (i : Int) < d.subs.length := by omega
   have RG := jA (row_go (ct := ct) HCt.out i (by rw [HTL.out]; exact hlt) HTL.out HB.out)
   have HLm := jA (show ((hs.map hd1).length + 1) * 24 ≤ 140737488355328 by rw [List.length_map, HN.out]; omega)
   go_wp2_with (first
    | (go_at_call 42; (with_reducible refine RG.out.mono ?_); rintro e w1 ⟨Ar, m, cr, rfl, hK, hb⟩; have HK1 := jA hK; have HR1 := jA (Kd.R_below HR.out hb); have HB1 := jA (below_then HB.out HB.out.size hb); have HS1 := jA (below_then HB.out HB.out.size hb).size; have HPM := jA (show (Kd.raw 1).M w1 Wt.heap.size (fun _ => False) (hd1 (.slice Ar m cr)) [.slice Ar m cr] from ⟨rfl, rfl, fun u hu => by rw [List.mem_singleton.1 hu]; rfl⟩); clear hK hb)
    | ((with_reducible refine gate_builtin (b := .append) (xs := #[.tmp 42, .tmp 46]) rfl ?_); at_builtin; refine Kd.R_append (Kd.raw 1) (w0 := Wt) Wt.heap.size rfl (.tmp 42) (.tmp 46) 24 32 (.slice none 0 0) 24 rfl Try.underlying24 COwn.info32 rfl (by decide) (by decide) _ (hs.map hd1) (hd1 (.slice Ar m cr)) [.slice Ar m cr] (fun _ => True) (fun _ => False) rfl rfl HPM.out (fun _ hk => hk.elim) (fun _ _ => trivial) HR1.out HB1.out HS1.out HLm.out ?_; intro v2 w2 hR2 hB2 hg2 Ze; have HR2 := jA hR2; have HB2 := jA hB2; clear hR2 hB2 hg2 Ze))
   exact ⟨⟨i + 1, hs ++ [.slice Ar m cr], by omega, by go_num, ⟨by simp [HN.out]⟩, ⟨all_snoc HK.out (by rw [HN.out]; exact HK1.out)⟩, ⟨by rw [List.map_append]; exact HR2.out⟩, HB2⟩, by simp [intOf]; omega⟩
  ·have hi2 : i = d.subs.length := by omega
   subst hi2
   have hlt' : ¬ ((d.subs.length : Int) < d.subs.length) := by omega
   obtain ⟨Ah, ch, e4⟩ := Kd.R_slice HR.out
   rw [List.length_map, HN.out] at e4
   subst e4
   have hrc := rows_C HR.out (by rw [HN.out, HTL.out]) (fun j v hv => K_below' (HK.out j v hv) HB.out)
   have HCR := jA hrc.2.2
   have HCL := jA hrc.2.1
   have HC1 := jA (Kd.C_below HCt.out HB.out)
   clear hrc HK HR HN hi hlt
   rename World => W1
   have HBn := jA (Below.refl W1.heap.size W1)
   have ZA := jA (fun (W : World) (hb : Below W1.heap.size W1 W) => (HBX.out _ HB.out).below hb)
   go_wp2
   clear x1
   go_loopw [6, 7] (fun u6 u7 wr => ∃ (i : Nat) (hs : List Value), i ≤ d.objs.length ∧ u7 = .int .i64 i ∧ Aside0 (hs.length = i) ∧ Aside0 (∀ j v, hs[j]? = some v → Kd.R (Kd.int .u16) 31 wr W1.heap.size (fun _ => True) v (VPure.column tab j)) ∧ Aside0 (Kd.R (Kd.raw 1) 32 wr W1.heap.size (fun _ => True) u6 (hs.map hd1)) ∧ Aside0 (Below W1.heap.size W1 wr)) (fun _ u7 _ => d.objs.length - (intOf u7).toNat)
   case atStart => exact ⟨0, [], by omega, rfl, ⟨rfl⟩, ⟨by simp⟩, ⟨Kd.R_nil _ _ _ _ _⟩, HBn⟩
   case round =>
    clear HBn
    obtain ⟨i, hs, hi, rfl, HN, HK, HR, HBn⟩ := hrel
    have x3 := (ZA.out _ HBn.out).cell 3
    simp only [Jt, Ju, Jv] at x3
    by_cases hlt : i < d.objs.length
    ·have hlt' : (i : Int) < d.objs.length := by omega
     have RG := jA (column_go (ct := ct) (Kd.C_below HC1.out HBn.out) HTL.out HCT.out (by omega) i (fun r hr => by rw [HTR.out r hr]; exact hlt))
     have HLm := jA (show ((hs.map hd1).length + 1) * 24 ≤ 140737488355328 by rw [List.length_map, HN.out]; omega)
     go_wp2_with (first
      | (go_at_call 40; (with_reducible refine RG.out.mono ?_); rintro e w1 ⟨Ar, m, cr, rfl, hK, hb⟩; have HK1 := jA (Kd.R_lower hK HBn.out.size); have HKo := jA (fun j v hv => Kd.R_below (HK.out j v hv) hb); have HR1 := jA (Kd.R_below HR.out hb); have HB1 := jA (below_then HBn.out HBn.out.size hb); have HS1 := jA (below_then HBn.out HBn.out.size hb).size; have HPM := jA (show (Kd.raw 1).M w1 W1.heap.size (fun _ => False) (hd1 (.slice Ar m cr)) [.slice Ar m cr] from ⟨rfl, rfl, fun u hu => by rw [List.mem_singleton.1 hu]; rfl⟩); clear hK hb)
      | ((with_reducible refine gate_builtin (b := .append) (xs := #[.tmp 55, .tmp 59]) rfl ?_); at_builtin; refine Kd.R_append (Kd.raw 1) (w0 := W1) W1.heap.size rfl (.tmp 55) (.tmp 59) 24 32 (.slice none 0 0) 24 rfl Try.underlying24 COwn.info32 rfl (by decide) (by decide) _ (hs.map hd1) (hd1 (.slice Ar m cr)) [.slice Ar m cr] (fun _ => True) (fun _ => False) rfl rfl HPM.out (fun _ hk => hk.elim) (fun _ _ => trivial) HR1.out HB1.out HS1.out HLm.out ?_; intro v2 w2 hR2 hB2 hg2 Ze; have HR2 := jA hR2; have HB2 := jA hB2; have HK2 := jA (all_snoc (P := fun j v => Kd.R (Kd.int .u16) 31 w2 W1.heap.size (fun _ => True) v (VPure.column tab j)) (fun j v hv => col_stay (HKo.out j v hv) HR1.out hg2) (by rw [HN.out]; exact col_stay HK1.out HR1.out hg2)); clear hR2 hB2 hg2 Ze))
     exact ⟨⟨i + 1, hs ++ [.slice Ar m cr], by omega, by go_num, ⟨by simp [HN.out]⟩, HK2, ⟨by rw [List.map_append]; exact HR2.out⟩, HB2⟩, by simp [intOf]; omega⟩
    ·have hi2 : i = d.objs.length := by omega
     subst hi2
     have hlt' : ¬ ((d.objs.length : Int) < d.objs.length) := by omega
     obtain ⟨Ak, kk, e6⟩ := Kd.R_slice HR.out
     rw [List.length_map, HN.out] at e6
     subst e6
     obtain ⟨cols, hcols⟩ : ∃ cols, cols = (List.range d.objs.length).map (VPure.column tab) := ⟨_, rfl⟩
     have hcl : cols.length = d.objs.length := by rw [hcols]; simp
     have hrc := rows_C (ls := cols) HR.out (by rw [HN.out, hcl]) (fun j v hv => by
      have hj : j < d.objs.length := by have := (List.getElem?_eq_some_iff.1 hv).1; rw [HN.out] at this; exact this
      rw [show cols.getD j [] = VPure.column tab j by rw [hcols]; simp [hj]]
      exact K_of_R (HK.out j v hv))
     have HCS := jA hrc.2.2
     have HCSL := jA hrc.2.1
     have HCN := jA hcl
     have HCD := jA hcols
     have ZB := jA (Kd.C_below HCR.out HBn.out)
     have ZC := jA (Kd.C_below HC1.out HBn.out)
     clear hrc HK HR HN hi hlt hcols hcl HCR HC1
     have HB2 := jA (below_then HB.out HB.out.size HBn.out)
     rename World => W2
     have hz := z26
     go_upto_region 15 with fail
     clear hz x3
     have hg3 : Stays (W2.alloc (.cells #[.slice none 0 0, .slice none 0 0, .slice none 0 0, .slice none 0 0, .slice none 0 0, .slice none 0 0] 26)) W2.heap.size (gV (.slice none 0 0) (.slice none 0 0) (.slice none 0 0) (.slice none 0 0) (.slice none 0 0) (.slice none 0 0)) 26 := heap_alloc_new W2 _
     have hb3 := below_alloc (Below.refl W2.heap.size W2) (.cells #[.slice none 0 0, .slice none 0 0, .slice none 0 0, .slice none 0 0, .slice none 0 0, .slice none 0 0] 26)
     obtain ⟨W3, hW3⟩ : ∃ W3, W3 = W2.alloc (.cells #[.slice none 0 0, .slice none 0 0, .slice none 0 0, .slice none 0 0, .slice none 0 0, .slice none 0 0] 26) := ⟨_, rfl⟩
     obtain ⟨g8, hg8⟩ : ∃ g8, g8 = W2.heap.size := ⟨_, rfl⟩
     rw [← hW3] at hg3 hb3 ⊢
     rw [← hg8] at hg3 ⊢
     have HG8 := jA (show W2.heap.size ≤ g8 by omega)
     have HG3 := jA hg3
     have HB3 := jA hb3
     have hwt := below_then HW0.out HW0.out.size HT.out
     have hw2 := below_then hwt hwt.size HB2.out
     have HW2 := jA hw2
     have HPX := jA (fun (W : World) (hb : Below W2.heap.size W2 W) => HP.out.below (below_then hw2 hw2.size hb))
     have Zf := jA (fun (W : World) (hb : Below W2.heap.size W2 W) => HBX.out W (below_then HB2.out HB2.out.size hb))
     have ZD := jA (fun (W : World) (hb : Below W2.heap.size W2 W) => HVX.out W (below_then HB2.out HB2.out.size hb))
     clear hg3 hb3 hwt hw2 hW3 hg8
     have HLm := jA (show (([] : List ByteArray).length + d.acts.length) * 16 ≤ 140737488355328 by simp only [List.length_nil]; omega)
     have HLo := jA (show (([] : List ByteArray).length + d.objs.length) * 16 ≤ 140737488355328 by simp only [List.length_nil]; omega)
     have x0 := HG3.out.cell 0
     simp only [gV, Jt, Ju, Jv] at x0
     have y0 := frozen_of_row _ _ 0 _ _ HG3.out
     have b0 := (Zf.out _ HB3.out).cell 0
     simp only [Jt, Ju, Jv] at b0
     go_upto_region 16 with ((with_reducible refine gate_builtin (b := .append) (xs := #[.tmp 62, .tmp 64]) rfl ?_); at_builtin; refine Kd.R_append_rows Kd.string (w0 := W3) (World.heap W3).size rfl (.tmp 62) (.tmp 64) 22 9 (.string ⟨#[]⟩) 16 rfl Try.underlying22 PG.info9 rfl (by decide) (by decide) (.slice none 0 0) [] d.acts A0 d.acts.length c0 (fun _ => True) (fun _ => False) rfl rfl (Kd.R_nil _ _ _ _ (fun _ => True)) (HPX.out _ HB3.out).h0 (fun _ _ h => h) (fun _ h => h.elim) (fun _ _ => trivial) (Below.refl _ _) (Nat.le_refl _) HLm.out ?_; intro vv w4 ho hb hg hat; rw [List.nil_append] at ho; obtain ⟨B0, k0, rfl⟩ := Kd.R_slice ho; have HR0 := jA (Kd.R_lower ho HB3.out.size); have HG4 := jA (HG3.out.below hb); have HB4 := jA (below_then HB3.out HB3.out.size hb); have y4 := frozen_of_row _ _ 0 _ _ (HG3.out.below hb); have x4 := (HG3.out.below hb).cell 0; (simp only [gV, Jt, Ju, Jv] at x4); clear ho hb hg hat)
     clear x0 y0 b0 y4 x4
     have hg := stays_set HG4.out 0 (.slice B0 d.acts.length k0)
     have hb := set_below (j := 0) (v := .slice B0 d.acts.length k0) HB4.out HG8.out
     have hr0 := R_set HR0.out HG4.out (by decide) 0 (.slice B0 d.acts.length k0)
     clear HG3 HB3 HR0 HG4 HB4 HLm
     generalize World.setCell w4 ⟨g8, 0, none⟩ (.slice B0 d.acts.length k0) = W5 at hg hb hr0 ⊢
     have HG5 := jA (show Stays W5 g8 (gV (.slice B0 d.acts.length k0) (.slice none 0 0) (.slice none 0 0) (.slice none 0 0) (.slice none 0 0) (.slice none 0 0)) 26 from hg)
     have HB5 := jA hb
     have HR0 := jA hr0
     have SB0 := subjects_go (Pol.mk d A0 c0 A1 c1 A2 c2 A3 c3 A4 c4 A5 c5 A6 c6 A7 c7 A8 c8 A9 c9 A10 c10) W5 (HPX.out _ hb) HF.out.subs
     simp only [Pol.cells] at SB0
     have SB := jA SB0
     clear SB0 hg hb hr0
     go_upto_region 17 with (first
      | ((with_reducible refine gate_dst (N := 67) rfl ?_); refine wpList_load_blk rfl 39 (.tmp 1) rfl w.heap.size ?hx #[.slice A0 d.acts.length c0, .slice A1 d.subs.length c1, .slice A2 d.roles.length c2, .slice A3 d.objs.length c3, .slice A4 d.grps.length c4, .slice A5 d.mem.length c5, .slice A6 d.inh.length c6, .slice A7 d.par.length c7, .slice A8 d.wit.length c8, .slice A9 d.rules.length c9, .slice A10 d.exc.length c10] 39 (Zf.out _ HB5.out) _ Try.underlying39 rfl (by kernel_rfl) ?_; (case hx => rfl))
      | (go_at_call 43; (with_reducible refine SB.out.mono ?_); rintro e w6 ⟨v, rfl, hR, hb⟩; obtain ⟨B1, k1, e1⟩ := Kd.R_slice hR; rw [List.length_map] at e1; subst e1; have HR1 := jA (Kd.R_lower hR HB5.out.size); have HR0b := jA (Kd.R_below HR0.out hb); have HG6 := jA (HG5.out.below hb); have HB6 := jA (below_then HB5.out HB5.out.size hb); have y6 := frozen_of_row _ _ 1 _ _ (HG5.out.below hb); have x6 := (HG5.out.below hb).cell 1; (simp only [gV, Jt, Ju, Jv] at x6); clear hR hb))
     clear y6 x6
     have hg := stays_set HG6.out 1 (.slice B1 d.subs.length k1)
     have hb := set_below (j := 1) (v := .slice B1 d.subs.length k1) HB6.out HG8.out
     have hr0 := R_set HR0b.out HG6.out (by decide) 1 (.slice B1 d.subs.length k1)
     have hr1 := R_set HR1.out HG6.out (by decide) 1 (.slice B1 d.subs.length k1)
     clear HG5 HB5 HR0 HR0b HR1 HG6 HB6 SB
     generalize World.setCell w6 ⟨g8, 1, none⟩ (.slice B1 d.subs.length k1) = W7 at hg hb hr0 hr1 ⊢
     have HG7 := jA (show Stays W7 g8 (gV (.slice B0 d.acts.length k0) (.slice B1 d.subs.length k1) (.slice none 0 0) (.slice none 0 0) (.slice none 0 0) (.slice none 0 0)) 26 from hg)
     have HB7 := jA hb
     have HR0 := jA hr0
     have HR1 := jA hr1
     clear hg hb hr0 hr1
     have x2 := HG7.out.cell 2
     simp only [gV, Jt, Ju, Jv] at x2
     have y2 := frozen_of_row _ _ 2 _ _ HG7.out
     have b3 := (Zf.out _ HB7.out).cell 3
     simp only [Jt, Ju, Jv] at b3
     go_upto_region 18 with ((with_reducible refine gate_builtin (b := .append) (xs := #[.tmp 71, .tmp 73]) rfl ?_); at_builtin; refine Kd.R_append_rows Kd.string (w0 := W7) (World.heap W7).size rfl (.tmp 71) (.tmp 73) 22 9 (.string ⟨#[]⟩) 16 rfl Try.underlying22 PG.info9 rfl (by decide) (by decide) (.slice none 0 0) [] d.objs A3 d.objs.length c3 (fun _ => True) (fun _ => False) rfl rfl (Kd.R_nil _ _ _ _ (fun _ => True)) (HPX.out _ HB7.out).h3 (fun _ _ h => h) (fun _ h => h.elim) (fun _ _ => trivial) (Below.refl _ _) (Nat.le_refl _) HLo.out ?_; intro vv w8 ho hb hg hat; rw [List.nil_append] at ho; obtain ⟨B2, k2, rfl⟩ := Kd.R_slice ho; have HR2 := jA (Kd.R_lower ho HB7.out.size); have HR0b := jA (Kd.R_below HR0.out hb); have HR1b := jA (Kd.R_below HR1.out hb); have HG8' := jA (HG7.out.below hb); have HB8 := jA (below_then HB7.out HB7.out.size hb); have y8 := frozen_of_row _ _ 2 _ _ (HG7.out.below hb); have x8 := (HG7.out.below hb).cell 2; (simp only [gV, Jt, Ju, Jv] at x8); clear ho hb hg hat)
     clear x2 y2 b3 y8 x8
     have hg := stays_set HG8'.out 2 (.slice B2 d.objs.length k2)
     have hb := set_below (j := 2) (v := .slice B2 d.objs.length k2) HB8.out HG8.out
     have hr0 := R_set HR0b.out HG8'.out (by decide) 2 (.slice B2 d.objs.length k2)
     have hr1 := R_set HR1b.out HG8'.out (by decide) 2 (.slice B2 d.objs.length k2)
     have hr2 := R_set HR2.out HG8'.out (by decide) 2 (.slice B2 d.objs.length k2)
     clear HG7 HB7 HR0 HR0b HR1 HR1b HR2 HG8' HB8 HLo
     generalize World.setCell w8 ⟨g8, 2, none⟩ (.slice B2 d.objs.length k2) = W9 at hg hb hr0 hr1 hr2 ⊢
     have HG9 := jA (show Stays W9 g8 (gV (.slice B0 d.acts.length k0) (.slice B1 d.subs.length k1) (.slice B2 d.objs.length k2) (.slice none 0 0) (.slice none 0 0) (.slice none 0 0)) 26 from hg)
     have HB9 := jA hb
     have HR0 := jA hr0
     have HR1 := jA hr1
     have HR2 := jA hr2
     have CA := jA (classes_go (W := W9) (A := Ah) (c := ch) (n := d.subs.length) (show kLs.C W9 Ah d.subs.length tab by rw [← HTL.out]; exact Kd.C_below ZB.out hb) HTL.out HCL.out HF.out.subs (fun r hr => by rw [HTR.out r hr]; exact HF.out.objs))
     clear hg hb hr0 hr1 hr2
     go_upto_region 19 with (go_at_call 44; (with_reducible refine CA.out.mono ?_); rintro e w10 ⟨u9, A10', n5, c10', rfl, hr4, hr5, hb⟩; obtain ⟨A9', c9', e9⟩ := Kd.R_slice hr4; obtain ⟨n4, hn4⟩ : ∃ n4, n4 = (numsOf tab).length := ⟨_, rfl⟩; rw [← hn4] at e9; subst e9; have HN4 := jA hn4; have HR4 := jA (Kd.R_lower hr4 HB9.out.size); have HR5 := jA (Kd.R_lower hr5 HB9.out.size); have Zn := jA (HG9.out.below hb); have HR0b := jA (Kd.R_below HR0.out hb); have HR1b := jA (Kd.R_below HR1.out hb); have HR2b := jA (Kd.R_below HR2.out hb); have Zc := jA (below_then HB9.out HB9.out.size hb); clear hr4 hr5 hb hn4)
     have CB := jA (classes_go (W := w10) (A := Ak) (c := kk) (Kd.C_below (show kLs.C W2 Ak d.objs.length cols by rw [← HCN.out]; exact HCS.out) Zc.out) HCN.out HCSL.out HF.out.objs (fun r hr => by
      rw [HCD.out] at hr
      obtain ⟨j, _, rfl⟩ := List.mem_map.1 hr
      rw [show (VPure.column tab j).length = tab.length by simp [VPure.column], HTL.out]; exact HF.out.subs))
     go_upto_region 20 with (go_at_call 44; (with_reducible refine CB.out.mono ?_); rintro e w11 ⟨u11, A12', n7, c12', rfl, hr6, hr7, hb⟩; obtain ⟨A11', c11', e11⟩ := Kd.R_slice hr6; obtain ⟨n6, hn6⟩ : ∃ n6, n6 = (numsOf cols).length := ⟨_, rfl⟩; rw [← hn6] at e11; subst e11; have HN6 := jA hn6; have HR6 := jA (Kd.R_lower hr6 Zc.out.size); have HR7 := jA (Kd.R_lower hr7 Zc.out.size); have Za := jA (Zn.out.below hb); have HR0 := jA (Kd.R_below HR0b.out hb); have HR1 := jA (Kd.R_below HR1b.out hb); have HR2 := jA (Kd.R_below HR2b.out hb); have HR4b := jA (Kd.R_below HR4.out hb); have HR5b := jA (Kd.R_below HR5.out hb); have Zo := jA (below_then Zc.out Zc.out.size hb); clear hr6 hr7 hb hn6)
     clear CA CB HG9 Zn HB9 Zc HR0b HR1b HR2b
     have y3 := frozen_of_row _ _ 3 _ _ Za.out
     have x3 := Za.out.cell 3
     simp only [gV, Jt, Ju, Jv] at x3
     go_upto_region 21 with fail
     clear y3 x3
     have hg := stays_set Za.out 3 (.slice A9' n4 c9')
     have hb := set_below (j := 3) (v := .slice A9' n4 c9') Zo.out HG8.out
     have hr0 := R_set HR0.out Za.out (by decide) 3 (.slice A9' n4 c9')
     have hr1 := R_set HR1.out Za.out (by decide) 3 (.slice A9' n4 c9')
     have hr2 := R_set HR2.out Za.out (by decide) 3 (.slice A9' n4 c9')
     have hr4 := R_set HR4b.out Za.out (by decide) 3 (.slice A9' n4 c9')
     have hr5 := R_set HR5b.out Za.out (by decide) 3 (.slice A9' n4 c9')
     have hr6 := R_set HR6.out Za.out (by decide) 3 (.slice A9' n4 c9')
     have hr7 := R_set HR7.out Za.out (by decide) 3 (.slice A9' n4 c9')
     clear Za Zo HR0 HR1 HR2 HR4 HR4b HR5 HR5b HR6 HR7
     obtain ⟨u3, hu3⟩ : ∃ u3, u3 = Value.slice A9' n4 c9' := ⟨_, rfl⟩
     generalize World.setCell w11 ⟨g8, 3, none⟩ (.slice A9' n4 c9') = W12 at hg hb hr0 hr1 hr2 hr4 hr5 hr6 hr7 ⊢
     have hg : Stays W12 g8 (gV (.slice B0 d.acts.length k0) (.slice B1 d.subs.length k1) (.slice B2 d.objs.length k2) (.slice A9' n4 c9') (.slice none 0 0) (.slice none 0 0)) 26 := hg
     have y4 := frozen_of_row _ _ 4 _ _ hg
     have x4 := hg.cell 4
     simp only [gV, Jt, Ju, Jv] at x4
     have Zb := jA hg
     have Zp := jA hb
     have HR0 := jA hr0
     have HR1 := jA hr1
     have HR2 := jA hr2
     have HR4 := jA hr4
     have HR5 := jA hr5
     have HR6 := jA hr6
     have HR7 := jA hr7
     clear hg hb hr0 hr1 hr2 hr4 hr5 hr6 hr7 hu3 u3
     go_upto_region 22 with fail
     clear y4 x4
     have hg := stays_set Zb.out 4 (.slice A11' n6 c11')
     have hb := set_below (j := 4) (v := .slice A11' n6 c11') Zp.out HG8.out
     have hr0 := R_set HR0.out Zb.out (by decide) 4 (.slice A11' n6 c11')
     have hr1 := R_set HR1.out Zb.out (by decide) 4 (.slice A11' n6 c11')
     have hr2 := R_set HR2.out Zb.out (by decide) 4 (.slice A11' n6 c11')
     have hr4 := R_set HR4.out Zb.out (by decide) 4 (.slice A11' n6 c11')
     have hr5 := R_set HR5.out Zb.out (by decide) 4 (.slice A11' n6 c11')
     have hr6 := R_set HR6.out Zb.out (by decide) 4 (.slice A11' n6 c11')
     have hr7 := R_set HR7.out Zb.out (by decide) 4 (.slice A11' n6 c11')
     clear Zb Zp HR0 HR1 HR2 HR4 HR5 HR6 HR7
     generalize World.setCell W12 ⟨g8, 4, none⟩ (.slice A11' n6 c11') = W13 at hg hb hr0 hr1 hr2 hr4 hr5 hr6 hr7 ⊢
     have hg : Stays W13 g8 (gV (.slice B0 d.acts.length k0) (.slice B1 d.subs.length k1) (.slice B2 d.objs.length k2) (.slice A9' n4 c9') (.slice A11' n6 c11') (.slice none 0 0)) 26 := hg
     obtain ⟨u0, hu0⟩ : ∃ u0, u0 = Value.slice B0 d.acts.length k0 := ⟨_, rfl⟩
     obtain ⟨v1, hv1⟩ : ∃ v1, v1 = Value.slice B1 d.subs.length k1 := ⟨_, rfl⟩
     obtain ⟨u2, hu2⟩ : ∃ u2, u2 = Value.slice B2 d.objs.length k2 := ⟨_, rfl⟩
     obtain ⟨v4, hv4⟩ : ∃ v4, v4 = Value.slice A9' n4 c9' := ⟨_, rfl⟩
     obtain ⟨v6, hv6⟩ : ∃ v6, v6 = Value.slice A11' n6 c11' := ⟨_, rfl⟩
     rw [← hu0, ← hv1, ← hu2, ← hv4, ← hv6] at hg
     rw [← hu0] at hr0
     rw [← hv1] at hr1
     rw [← hu2] at hr2
     rw [← hv4] at hr4 ⊢
     rw [← hv6] at hr6 ⊢
     have HU := jA (show u0 = Value.slice B0 d.acts.length k0 ∧ v1 = Value.slice B1 d.subs.length k1 ∧ u2 = Value.slice B2 d.objs.length k2 ∧ v4 = Value.slice A9' n4 c9' ∧ v6 = Value.slice A11' n6 c11' from ⟨hu0, hv1, hu2, hv4, hv6⟩)
     have HR0 := jA (offG hr0 hg (by decide))
     have HR1 := jA (offG hr1 hg (by decide))
     have HR2 := jA (offG hr2 hg (by decide))
     have HR4 := jA (offG hr4 hg (by decide))
     have HR5 := jA (offG hr5 hg (by decide))
     have HR6 := jA (offG hr6 hg (by decide))
     have HR7 := jA (offG hr7 hg (by decide))
     have HMK := jA (show Mk g8 W13 W13 u0 v1 u2 v4 v6 (.slice none 0 0) [] [] from ⟨Same.refl _ _, hg, Kd.R_nil _ _ _ _ _, Rws.nil _ _⟩)
     have Zg := jA hb
     clear hg hb hr0 hr1 hr2 hr4 hr5 hr6 hr7 hu0 hv1 hu2 hv4 hv6
     obtain ⟨WN, hWN⟩ : ∃ WN, WN = firstsN tab := ⟨_, rfl⟩
     obtain ⟨CN, hCN⟩ : ∃ CN, CN = firstsN cols := ⟨_, rfl⟩
     have hT : tab = rowsM d.subs.length d.objs.length (matD d) := by rw [HTD.out]; rfl
     have hC : cols = rowsM d.objs.length d.subs.length (fun j i => matD d i j) := by rw [HCD.out, HTD.out]; exact mat_columns d
     have hW1 : firstsOf tab = WN.map (fun (n : Nat) => (n : Int)) := by rw [hWN]; rfl
     have hC1 : firstsOf cols = CN.map (fun (n : Nat) => (n : Int)) := by rw [hCN]; rfl
     have hWlt : ∀ n ∈ WN, n < d.subs.length := fun n hn => by rw [hWN] at hn; have := firstsN_lt hn; rwa [HTL.out] at this
     have hClt : ∀ n ∈ CN, n < d.objs.length := fun n hn => by rw [hCN] at hn; have := firstsN_lt hn; rwa [HCN.out] at this
     have hMM : masksM d.subs.length d.objs.length (matD d) = WN.map (fun i => CN.map (fun j => matD d i j)) := by
      rw [hWN, hCN, hT, hC, (rows_nums _ _ _ HF.out.objs).2, (rows_nums _ _ _ HF.out.subs).2]; rfl
     have hn5 : n5 = WN.length := by have h := (Kd.R_reads' HR5.out).1; rw [h, hW1, List.length_map]
     have hn7 : n7 = CN.length := by have h := (Kd.R_reads' HR7.out).1; rw [h, hC1, List.length_map]
     have ZI : n7 ≤ 64 := by
      have h2 := uniq_length cols
      have h3 : CN.length = (uniq cols).length := by rw [hCN]; simp [firstsN]
      rw [HCN.out] at h2
      have := HF.out.objs
      omega
     have ZJ : n5 ≤ 64 := by
      have h2 := uniq_length tab
      have h3 : WN.length = (uniq tab).length := by rw [hWN]; simp [firstsN]
      rw [HTL.out] at h2
      have := HF.out.subs
      omega
     rw [hW1] at HR5
     rw [hC1] at HR7
     have HWLT := jA hWlt
     have HCLT := jA hClt
     have HMM := jA hMM
     have HW5L := jA hn5
     have HC7L := jA hn7
     have HOF := jA (show numsOf tab = ofM d.subs.length d.objs.length (matD d) by rw [hT]; exact (rows_nums _ _ _ HF.out.objs).1)
     have HON := jA (show numsOf cols = ofM d.objs.length d.subs.length (fun j i => matD d i j) by rw [hC]; exact (rows_nums _ _ _ HF.out.subs).1)
     have HTG := jA (show ∀ i j, i < d.subs.length → j < d.objs.length → rd (rd_L3 tab (i : Int)) (j : Int) = matD d i j by
      intro i j hi hj
      rw [HTD.out]
      simp [rd_L3, rd, tabD, rowD, hi, hj])
     clear hWN hCN hW1 hC1 hWlt hClt hMM hn5 hn7 hT hC
     have HGG := jA (show gv < g8 by
      have h1 := (Array.getElem?_eq_some_iff.1 HV0.out).1; have h2 := HT.out.size; have h3 := HB2.out.size; have h4 := HG8.out; omega)
     go_wp2
     go_loopw [13] (fun u13 wr => ∃ (a : Nat) (vm : Value) (hs : List Value), a ≤ n5 ∧ u13 = .int .i64 a ∧ Aside0 (Mk g8 W13 wr u0 v1 u2 v4 v6 vm hs ((masksM d.subs.length d.objs.length (matD d)).take a))) (fun u13 _ => n5 - (intOf u13).toNat)
     case atStart => exact ⟨0, _, [], Nat.zero_le _, rfl, HMK⟩
     case round =>
      clear HMK
      obtain ⟨a, vm, hds, ha5, rfl, HA⟩ := hrel
      have HHL := jA HA.out.rows.len
      by_cases Zh : a < n5
      ·have c05 : (a : Int) < n5 := by omega
       have htk : (masksM d.subs.length d.objs.length (matD d)).take (a + 1) = (masksM d.subs.length d.objs.length (matD d)).take a ++ [CN.map (fun j => matD d (WN.getD a 0) j)] := by
        rw [HMM.out]
        have haw : a < WN.length := by rw [← HW5L.out]; exact Zh
        have h := List.take_succ_eq_append_getElem (l := WN.map (fun i => CN.map (fun j => matD d i j))) (i := a) (by simpa using haw)
        rw [h, List.getElem_map]
        simp [haw]
       have hmlen : ((masksM d.subs.length d.objs.length (matD d)).take a).length = a := by
        have h0 := HW5L.out; rw [List.length_take, HMM.out, List.length_map]; omega
       obtain ⟨i, hii⟩ : ∃ i, i = WN.getD a 0 := ⟨_, rfl⟩
       have hin : i < d.subs.length := by
        have haw : a < WN.length := by rw [← HW5L.out]; exact Zh
        rw [hii, List.getD_eq_getElem?_getD, List.getElem?_eq_getElem haw]
        exact HWLT.out _ (List.getElem_mem haw)
       rw [← hii] at htk
       have HTK := jA htk
       have HII := jA hii
       have HIN := jA hin
       have HMLIM := jA (show (((masksM d.subs.length d.objs.length (matD d)).take a).length + 1) * 24 ≤ 140737488355328 by omega)
       obtain ⟨ms, hms⟩ : ∃ ms, ms = (masksM d.subs.length d.objs.length (matD d)).take a := ⟨_, rfl⟩
       rw [← hms] at HA HMLIM HTK HHL
       have HR8 := jA (show Kd.R (Kd.int .u16) 31 wr wr.heap.size (fun _ => True) (.slice none 0 0) ((CN.map (fun j => matD d i j)).take 0) from Kd.R_nil _ _ _ _ _)
       have Zi := jA HA.out.older
       have Zj := jA HA.out.same.size
       obtain ⟨B8, hB8⟩ : ∃ B8, B8 = wr.heap.size := ⟨_, rfl⟩
       rw [← hB8] at HR8 Zi Zj
       have Zq := jA (show B8 ≤ wr.heap.size by omega)
       clear htk hmlen hii hin hms hB8
       go_wp2
       go_loopw [14, 15] (fun u14 u15 wr => ∃ b : Nat, b ≤ n7 ∧ u15 = .int .i64 b ∧ Aside0 (Mk g8 W13 wr u0 v1 u2 v4 v6 vm hds ms) ∧ Aside0 (Kd.R (Kd.int .u16) 31 wr B8 (fun _ => True) u14 ((CN.map (fun j => matD d i j)).take b)) ∧ Aside0 (B8 ≤ wr.heap.size)) (fun _ u15 _ => n7 - (intOf u15).toNat)
       case atStart => exact ⟨0, Nat.zero_le _, rfl, HA, HR8, Zq⟩
       case round =>
        clear HA HR8 Zq
        obtain ⟨b, hb7, rfl, HMb, HRb, Zr⟩ := hrel
        by_cases hltb : b < n7
        ·have c07 : (b : Int) < n7 := by omega
         have haw : a < WN.length := by rw [← HW5L.out]; exact Zh
         have hbw : b < CN.length := by rw [← HC7L.out]; exact hltb
         have hC5 := (Kd.R_reads' (HMb.out.same.toR HR5.out (fun _ h => h))).2.2
         obtain ⟨ad5, e5, hx5⟩ := Kd.at_int hC5 (a : Int) (by omega) (by rw [List.length_map]; omega)
         have Zs : rd (WN.map (fun (n : Nat) => (n : Int))) (a : Int) = ((i : Nat) : Int) := by rw [HII.out]; simp [rd, haw]
         rw [Zs] at hx5
         simp only [Int.toNat_natCast] at hx5
         have hC7 := (Kd.R_reads' (HMb.out.same.toR HR7.out (fun _ h => h))).2.2
         obtain ⟨ad7, e7, hx7⟩ := Kd.at_int hC7 (b : Int) (by omega) (by rw [List.length_map]; omega)
         have Zt : rd (CN.map (fun (n : Nat) => (n : Int))) (b : Int) = ((CN[b] : Nat) : Int) := by simp [rd, hbw]
         rw [Zt] at hx7
         simp only [Int.toNat_natCast] at hx7
         have hjn := HCLT.out CN[b] (List.getElem_mem hbw)
         have htk : (CN.map (fun j => matD d i j)).take (b + 1) = (CN.map (fun j => matD d i j)).take b ++ [matD d i CN[b]] := by
          have h := List.take_succ_eq_append_getElem (l := CN.map (fun j => matD d i j)) (i := b) (by simpa using hbw)
          simpa using h
         have hrlen : ((CN.map (fun j => matD d i j)).take b).length = b := by have h0 := HC7L.out; rw [List.length_take, List.length_map]; omega
         obtain ⟨j, hjj⟩ : ∃ j, j = CN[b] := ⟨_, rfl⟩
         rw [← hjj] at hx7 hjn htk
         have HTKb := jA htk
         have HRLIM := jA (show (((CN.map (fun j => matD d i j)).take b).length + 1) * 2 ≤ 140737488355328 by omega)
         have Zu : Below W2.heap.size W2 wr := HMb.out.same.below Zg.out (fun k hk => by have h2 := HG8.out; have hk : k = g8 := hk; omega)
         have hCt := Kd.C_below ZC.out Zu
         obtain ⟨adt, Ar, cr, et, hxt, hcr, hCr⟩ := at_L3 hCt (i : Int) (by omega) (by have := HIN.out; omega)
         have hrl : (rd_L3 tab (i : Int)).length = d.objs.length := by
          have hi := HIN.out
          rw [← HTL.out] at hi
          rw [show rd_L3 tab (i : Int) = tab[i] by simp [rd_L3, hi]]
          exact HTR.out _ (List.getElem_mem hi)
         rw [hrl] at hxt hcr hCr
         obtain ⟨adr, er, hxr⟩ := Kd.at_int hCr (j : Int) (by omega) (by omega)
         rw [HTG.out i j HIN.out hjn] at hxr
         simp only [Int.toNat_natCast] at hxt hxr
         subst e5 e7 et er
         have c08 : (i : Int) < d.subs.length := by have := HIN.out; omega
         have c09 : (j : Int) < d.objs.length := by omega
         obtain ⟨q, hq⟩ : ∃ q, q = matD d i j := ⟨_, rfl⟩
         rw [← hq] at hxr HTKb
         obtain ⟨rl, Zv⟩ : ∃ rl, rl = (CN.map (fun j => matD d i j)).take b := ⟨_, rfl⟩
         rw [← Zv] at HRb HRLIM HTKb
         have HNEb := jA (Kd.R_ne HRb.out HMb.out.g (by decide))
         have HX5 := jA (show wr.drew.cell? _ = _ from hx5)
         have HX7 := jA (show wr.drew.cell? _ = _ from hx7)
         have HXT := jA (show wr.drew.cell? _ = _ from hxt)
         have HXR := jA (show wr.drew.cell? _ = _ from hxr)
         clear hC5 hC7 haw hbw Zs Zt hjj htk hrlen Zu hCt hcr hCr hrl hq Zv hx5 hx7 hxt hxr hjn
         go_upto_region 29 with fail
         refine start_ (n := 17) (S := fun w' => w'.cell? (ad5.add a) = some (.int .i64 i) ∧ w'.cell? (adt.add i) = some (.slice (some adr) d.objs.length cr) ∧ w'.cell? (ad7.add b) = some (.int .i64 j) ∧ w'.cell? (adr.add j) = some (.int .u16 q)) (ds := [15]) (Jb 17 0) (by kernel_rfl) rfl (by kernel_rfl) ⟨HX5.out, HXT.out, HX7.out, HXR.out⟩ (fun hHeld => ?_)
         have HM6 := jA (HMb.out.move (below_drew (Below.refl wr.heap.size wr)))
         have HR6b := jA (Kd.R_drew HRb.out)
         have HS6 := jA (show B8 ≤ wr.drew.heap.size from Zr.out)
         have ZE := jA (Kd.R_ne HR6b.out HM6.out.g (by decide))
         obtain ⟨W6, hW6⟩ : ∃ W6, W6 = World.drew wr := ⟨_, rfl⟩
         rw [← hW6] at hHeld HM6 HR6b HS6 ⊢
         clear hW6 HMb HRb Zr HNEb HX5 HX7 HXT HXR
         refine Jp 0 102 (Jb 17 1) rfl rfl ?_
         refine Jp 1 103 (Jb 17 3) rfl rfl ?_
         refine Jp 2 104 (Jb 17 7) rfl rfl ?_
         refine Jp 3 105 (Jb 17 15) rfl rfl ?_
         refine Jp 4 106 (Jb 17 31) rfl rfl ?_
         refine Jk 5 107 (Jb 17 63) rfl rfl hHeld (.inl ⟨by rfl, by rintro w' ⟨s0, s1, s2, s3⟩; go_simp; with_reducible rfl⟩) ?_
         refine Jp 6 108 (Jb 17 127) rfl rfl ?_
         refine Jk 7 109 (Jb 17 255) rfl rfl hHeld (.inl ⟨by rfl, by rintro w' ⟨s0, s1, s2, s3⟩; go_simp; with_reducible rfl⟩) ?_
         refine Jp 8 110 (Jb 17 511) rfl rfl ?_
         refine Jp 9 111 (Jb 17 1023) rfl rfl ?_
         refine Jp 10 112 (Jb 17 2047) rfl rfl ?_
         refine Jk 11 113 (Jb 17 4095) rfl rfl hHeld (.inl ⟨by rfl, by rintro w' ⟨s0, s1, s2, s3⟩; go_simp; with_reducible rfl⟩) ?_
         refine Jp 12 114 (Jb 17 8191) rfl rfl ?_
         refine Jk 13 115 (Jb 17 16383) rfl rfl hHeld (.inl ⟨by rfl, by rintro w' ⟨s0, s1, s2, s3⟩; go_simp; with_reducible rfl⟩) ?_
         refine one_ (i := 14) (N := some 116) (Jb 17 32767) rfl rfl (by kernel_rfl) (by decide) (fun K hK => ?_)
         refine GDiffer.step_run (w' := W6.alloc (.cells #[.int .u16 q] 31)) (v := .slice (some ⟨W6.heap.size, 0, none⟩) 1 1) rfl rfl (by go_simp) ?_
         have hb := below_alloc (Below.refl _ W6) (.cells #[.int .u16 q] 31)
         have hH := And.intro (pw_cell_below hb hHeld.1) (And.intro (pw_cell_below hb hHeld.2.1) (And.intro (pw_cell_below hb hHeld.2.2.1) (pw_cell_below hb hHeld.2.2.2)))
         clear hb hHeld
         refine hK.out _ _ hH (fun hHeld => ?_)
         clear hK K hH
         refine norm_ (a' := ?_) ?_ ?_; rotate_left; (show Act.put _ (some 116) _ = _; simp only [Act.put, Jq, Jr, Js]; rfl)
         clear hHeld
         refine last_ (i := 15) (N := some 117) (Jb 17 65535) rfl rfl (by kernel_rfl) (by decide) (fun K hK => ?_)
         refine Kd.R_append_step (Kd.int .u16) (w0 := W6) B8 rfl (.tmp 102) (.tmp 116) 32 31 (.int .u16 0) 2 rfl Try.underlying32 PG.info31 rfl (by decide) (by decide) u14 rl q [.int .u16 q] (fun _ => True) (fun _ => False) rfl rfl rfl (fun _ hk => hk.elim) (fun _ _ => trivial) HR6b.out (below_le (Below.refl W6.heap.size W6) HS6.out) HS6.out HRLIM.out ?_
         intro v9 w9 hR9 hB9 hg9 ZF
         have HR9 := jA hR9
         have HM9 := jA (HM6.out.row Zi.out Zj.out (fun k hk => by (obtain ⟨inner, ho⟩ := Kd.R_own HR6b.out); exact own_base ho k hk) hg9 ZE.out)
         have ZG := jA (Nat.le_trans HS6.out hg9.size)
         clear hR9 hB9 hg9 ZF
         refine hK.out _ _ ?_
         clear hK K
         refine norm_ (a' := ?_) ?_ ?_; rotate_left; (show Act.put _ (some 117) _ = _; simp only [Act.put, Jq, Jr, Js]; rfl)
         refine Jp 16 14 (Jb 17 131071) rfl rfl ?_
         refine done_ (by kernel_rfl) ?_
         go_wp2
         go_roundw
         case rel => exact ⟨b + 1, by omega, by go_num, HM9, ⟨by rw [HTKb.out]; exact HR9.out⟩, ZG⟩
         case measure => simp [intOf]; omega
        ·have hbb : b = n7 := by omega
         subst hbb
         have c07 : ¬ ((b : Int) < b) := by omega
         have hrow := HRb.out
         rw [List.take_of_length_le (by have h0 := HC7L.out; rw [List.length_map]; omega)] at hrow
         obtain ⟨Ar, cr, er⟩ := Kd.R_slice hrow
         obtain ⟨nr, hnr⟩ : ∃ nr, nr = (CN.map (fun j => matD d i j)).length := ⟨_, rfl⟩
         rw [← hnr] at er
         subst er
         have HROW := jA hrow
         have e5 := HMb.out.g.cell 5
         simp only [gV, Jt, Ju, Jv] at e5
         obtain ⟨rl, hrl⟩ : ∃ rl, rl = CN.map (fun j => matD d i j) := ⟨_, rfl⟩
         rw [← hrl] at HROW HTK
         have HSZ := jA HMb.out.same.size
         have hpm : (Kd.raw 1).M wr W13.heap.size (fun _ => False) (hd1 (.slice Ar nr cr)) [.slice Ar nr cr] := ⟨rfl, rfl, fun u hu => by rw [List.mem_singleton.1 hu]; rfl⟩
         have HAPR := jA (show ∀ u ∈ hds, Ap u (.slice Ar nr cr) from fun u hu => ap_lt (B := B8) (Zi.out.2 u hu) (Kd.R_base HROW.out))
         have HROW' := jA (Kd.R_lower HROW.out Zj.out)
         have HMLEN := jA (show ((hds.map hd1).length + 1) * 24 ≤ 140737488355328 by have h0 := HMLIM.out; have h1 := HHL.out; rw [List.length_map, h1]; exact h0)
         have HPM := jA hpm
         clear hrow hnr hrl HRb hpm
         go_upto_region 24 with (first | ((with_reducible refine gate_builtin (b := .append) (xs := #[.tmp 119, .tmp 121]) rfl ?_); at_builtin; refine Kd.R_append (Kd.raw 1) (w0 := wr) W13.heap.size rfl (.tmp 119) (.tmp 121) 24 32 (.slice none 0 0) 24 rfl Try.underlying24 COwn.info32 rfl (by decide) (by decide) vm (hds.map hd1) (hd1 (.slice Ar nr cr)) [.slice Ar nr cr] (fun _ => True) (fun _ => False) rfl rfl HPM.out (fun _ hk => hk.elim) (fun _ _ => trivial) HMb.out.raw (Below.refl _ _) HSZ.out HMLEN.out ?_; intro v11 w11 Zk ZH Zl Zw; have Zx := jA (HMb.out.app Zk Zl HROW'.out HAPR.out); have Zm : Stays w11 g8 (gV u0 v1 u2 v4 v6 vm) 26 := (Zl.block _ (Array.getElem?_eq_some_iff.1 HMb.out.g).1 (Kd.R_ne HMb.out.raw HMb.out.g (by decide))).trans HMb.out.g; have x11 := Zm.cell 5; simp only [gV, Jt, Ju, Jv] at x11; have f11 : w11.frozen? ⟨g8, 5, none⟩ = false := frozen_of_row _ _ _ _ _ Zm; obtain ⟨A11, c11, e11⟩ := Kd.R_slice Zk; obtain ⟨n11, Zy⟩ : ∃ n11, n11 = (hds.map hd1 ++ [hd1 (.slice Ar nr cr)]).length := ⟨_, rfl⟩; rw [← Zy] at e11; subst e11; clear Zk ZH Zl Zw Zm Zy))
         clear e5 x11 f11
         rw [← HTK.out] at Zx
         go_wp2
         go_roundw
         case rel => exact ⟨a + 1, _, _, by omega, by go_num, Zx⟩
         case measure => simp [intOf]; omega
      ·have haa : a = n5 := by omega
       subst haa
       have hA := HA.out
       rw [List.take_of_length_le (by have h0 := HW5L.out; rw [HMM.out, List.length_map]; omega)] at hA
       have hVf := hA.same.stays (ZD.out _ Zg.out) (by have h1 := HGG.out; intro e; have e : gv = g8 := e; omega)
       have q0 := hA.same.toR HR0.out (fun _ h => h)
       have q1 := hA.same.toR HR1.out (fun _ h => h)
       have q2 := hA.same.toR HR2.out (fun _ h => h)
       have q3 := hA.same.toR HR4.out (fun _ h => h)
       have q4 := hA.same.toR HR6.out (fun _ h => h)
       have q5 := hA.raw
       have HRWS := jA hA.rows
       obtain ⟨B0', k0', rfl⟩ := Kd.R_slice q0
       obtain ⟨B1', k1', rfl⟩ := Kd.R_slice q1
       obtain ⟨B2', k2', rfl⟩ := Kd.R_slice q2
       obtain ⟨B3', k3', rfl⟩ := Kd.R_slice q3
       obtain ⟨B4', k4', rfl⟩ := Kd.R_slice q4
       obtain ⟨B5', k5', e5⟩ := Kd.R_slice q5
       have hml : (hds.map hd1).length = (masksM d.subs.length d.objs.length (matD d)).length := by
        have h0 := hA.rows.len
        rw [List.length_map]; exact h0
       rw [hml] at e5
       subst e5
       obtain ⟨G0, hG0⟩ : ∃ G0 : Array Value, G0 = gV (.slice B0' d.acts.length k0') (.slice B1' (d.subs.map (·.f0)).length k1') (.slice B2' d.objs.length k2') (.slice B3' (numsOf tab).length k3') (.slice B4' (numsOf cols).length k4') (.slice B5' (masksM d.subs.length d.objs.length (matD d)).length k5') := ⟨_, rfl⟩
       have hsz : G0.size = 6 := by rw [hG0]; rfl
       have h1c : G0.all (·.oneCell') = true := by rw [hG0]; simp [gV, Value.oneCell']
       have hg := hA.g
       rw [← hG0] at hg
       have HVF := jA hVf
       have HGF := jA hg
       have HSZ := jA (show (Try.prog.info? 26).map (·.size) = some G0.size by rw [hsz]; exact i26)
       have Zz := jA (show G0.size = (#[.slice none 0 0, .slice none 0 0, .slice none 0 0, .slice none 0 0, .slice none 0 0, .slice none 0 0] : Array Value).size by rw [hsz]; rfl)
       have H1C := jA h1c
       have HG0 := jA hG0
       have HBF := jA (hA.same.below (below_then HW2.out HW2.out.size Zg.out) (fun k hk => by have h1 := HGG.out; have h2 := HGV.out; have hk : k = g8 := hk; omega))
       have Q0 := jA q0
       have Q1 := jA q1
       have Q2 := jA q2
       have Q3 := jA q3
       have Q4 := jA q4
       have Q5 := jA q5
       have c05 : ¬ ((a : Int) < a) := by omega
       clear hA hVf q0 q1 q2 q3 q4 q5 hsz h1c hg hG0 HA
       go_wp2_with (first | ((with_reducible refine gate_dst (N := 124) rfl ?_); refine wpList_load_blk rfl 26 (.tmp 8) rfl g8 ?hx G0 26 HGF.out _ Try.underlying26 rfl HSZ.out ?_; (case hx => rfl)) | ((with_reducible refine gate_store (t := 26) (p := 2) (v := .tmp 124) rfl ?_); refine wpList_store_var rfl 26 (.tmp 2) (.tmp 124) rfl gv G0 ?hx ?hy HVF.out Zz.out HSZ.out H1C.out ?_; (case hx => rfl); (case hy => rfl)))
       (try simp only [Exit.inBlock, Exit.then])
       have hres := setCells_var (vs := G0) HVF.out Zz.out
       refine bodyPost_ret (results_single rfl (.cell gv 26 G0 (0, 0) _ rfl hres Try.underlying26 rfl HSZ.out .nil)) rfl ?_
       have p0 := R_setCells Q0.out HVF.out (by decide) G0.toList
       have p1 := R_setCells Q1.out HVF.out (by decide) G0.toList
       have p2 := R_setCells Q2.out HVF.out (by decide) G0.toList
       have p3 := R_setCells Q3.out HVF.out (by decide) G0.toList
       have p4 := R_setCells Q4.out HVF.out (by decide) G0.toList
       have p5 := R_setCells Q5.out HVF.out (by decide) G0.toList
       have hrs : Rws (World.setCells wr gv 0 G0.toList) W13.heap.size hds (masksM d.subs.length d.objs.length (matD d)) := HRWS.out.stay (fun v hv k hk _ => setCells_far _ 0 k (fun e => by
        subst e
        obtain ⟨c, hc⟩ := HRWS.out.typed v hv k hk
        have hh := HVF.out
        rw [show wr.heap[k]? = _ from hh] at hc
        cases hc))
       refine ⟨⟨B0', k0', d.acts, B1', k1', d.subs.map (·.f0), B2', k2', d.objs, B3', k3', numsOf tab, B4', k4', numsOf cols, B5', k5', masksM d.subs.length d.objs.length (matD d)⟩, ?_, in_of p0 p1 p2 p3 p4 p5 hrs ?_, ⟨rfl, rfl, rfl, HOF.out, HON.out, rfl⟩, setCells_below HBF.out (Nat.le_of_lt HGV.out) _⟩
       ·rw [HG0.out]; rfl
       ·intro row hr x hx
        have hr : row ∈ masksM d.subs.length d.objs.length (matD d) := hr
        unfold masksM at hr
        obtain ⟨i, _, rfl⟩ := List.mem_map.1 hr
        obtain ⟨j, _, rfl⟩ := List.mem_map.1 hx
        exact matD_u16 d HF.out.acts i j
end Go.Proofs.Ythaiodklfoegiaa.ORef
/- Policies that are too large for a graph: both answers are the empty one. -/
namespace Go.Proofs.Ythaiodklfoegiaa.OBig
open Go.RowKit YthaiodklfoegiaaW.PrintWords YthaiodklfoegiaaW.PrintLast YthaiodklfoegiaaW.PrintMore BRow GDiffer CSame GValid MSide MPol OBase COwn Go.Maps
open PG
def Big (d : PolD) : Prop := 16 < d.acts.length ∨ (d.acts.length ≤ 16 ∧ 64 < d.subs.length) ∨ (d.acts.length ≤ 16 ∧ d.subs.length ≤ 64 ∧ 64 < d.objs.length)
theorem big_or (d : PolD) : Big d ∨ (d.subs.length ≤ 64 ∧ d.objs.length ≤ 64 ∧ d.acts.length ≤ 16) := by unfold Big; omega
def gNil : G := ⟨none, 0, [], none, 0, [], none, 0, [], none, 0, [], none, 0, [], none, 0, []⟩
theorem ref_big (p : Pol) (w : World) (hB : Big p.d) : Calls Try.prog 14 #[.agg p.cells] w fun e w' => e = .returned gNil.val ∧ Below w.heap.size w w' := by
 obtain ⟨d, A0, c0, A1, c1, A2, c2, A3, c3, A4, c4, A5, c5, A6, c6, A7, c7, A8, c8, A9, c9, A10, c10⟩ := p
 have hB : Big d := hB
 have Za : Stays (w.alloc (.cells #[.slice A0 d.acts.length c0, .slice A1 d.subs.length c1, .slice A2 d.roles.length c2, .slice A3 d.objs.length c3, .slice A4 d.grps.length c4, .slice A5 d.mem.length c5, .slice A6 d.inh.length c6, .slice A7 d.par.length c7, .slice A8 d.wit.length c8, .slice A9 d.rules.length c9, .slice A10 d.exc.length c10] 39)) w.heap.size #[.slice A0 d.acts.length c0, .slice A1 d.subs.length c1, .slice A2 d.roles.length c2, .slice A3 d.objs.length c3, .slice A4 d.grps.length c4, .slice A5 d.mem.length c5, .slice A6 d.inh.length c6, .slice A7 d.par.length c7, .slice A8 d.wit.length c8, .slice A9 d.rules.length c9, .slice A10 d.exc.length c10] 39 := heap_alloc_new w _
 have e0 := Za.cell 0
 have e1 := Za.cell 1
 have e3 := Za.cell 3
 simp only [Jt, Ju, Jv] at e0 e1 e3
 clear Za
 have hv : Stays ((w.alloc (.cells #[.slice A0 d.acts.length c0, .slice A1 d.subs.length c1, .slice A2 d.roles.length c2, .slice A3 d.objs.length c3, .slice A4 d.grps.length c4, .slice A5 d.mem.length c5, .slice A6 d.inh.length c6, .slice A7 d.par.length c7, .slice A8 d.wit.length c8, .slice A9 d.rules.length c9, .slice A10 d.exc.length c10] 39)).alloc (.cells #[.slice none 0 0, .slice none 0 0, .slice none 0 0, .slice none 0 0, .slice none 0 0, .slice none 0 0] 26)) (w.heap.size + 1) #[.slice none 0 0, .slice none 0 0, .slice none 0 0, .slice none 0 0, .slice none 0 0, .slice none 0 0] 26 := by
  have h := heap_alloc_new (w.alloc (.cells #[.slice A0 d.acts.length c0, .slice A1 d.subs.length c1, .slice A2 d.roles.length c2, .slice A3 d.objs.length c3, .slice A4 d.grps.length c4, .slice A5 d.mem.length c5, .slice A6 d.inh.length c6, .slice A7 d.par.length c7, .slice A8 d.wit.length c8, .slice A9 d.rules.length c9, .slice A10 d.exc.length c10] 39)) (.cells #[.slice none 0 0, .slice none 0 0, .slice none 0 0, .slice none 0 0, .slice none 0 0, .slice none 0 0] 26)
  rw [World.size_alloc] at h
  exact h
 have hb := below_alloc (below_alloc (Below.refl w.heap.size w) (.cells #[.slice A0 d.acts.length c0, .slice A1 d.subs.length c1, .slice A2 d.roles.length c2, .slice A3 d.objs.length c3, .slice A4 d.grps.length c4, .slice A5 d.mem.length c5, .slice A6 d.inh.length c6, .slice A7 d.par.length c7, .slice A8 d.wit.length c8, .slice A9 d.rules.length c9, .slice A10 d.exc.length c10] 39)) (.cells #[.slice none 0 0, .slice none 0 0, .slice none 0 0, .slice none 0 0, .slice none 0 0, .slice none 0 0] 26)
 unfold Pol.cells
 simp only []
 unfold Big at hB
 rcases hB with h1 | ⟨h1, h2⟩ | ⟨h1, h2, h3⟩
 ·have hz := z26
  go_enter Try.func14, Try.ntmps14
  go_upto_region 2 with fail
  clear e0 e1 e3
  go_wp2_with ((with_reducible refine gate_store (t := 26) (p := 2) (v := .tmp 32) rfl ?_); refine wpList_store_var rfl 26 (.tmp 2) (.tmp 32) rfl (w.heap.size + 1) #[.slice none 0 0, .slice none 0 0, .slice none 0 0, .slice none 0 0, .slice none 0 0, .slice none 0 0] ?hx ?hy hv rfl i26 (by simp [Value.oneCell']) ?_; (case hx => rfl); (case hy => rfl))
  (try simp only [Exit.inBlock, Exit.then])
  have hres := setCells_var (vs := #[.slice none 0 0, .slice none 0 0, .slice none 0 0, .slice none 0 0, .slice none 0 0, .slice none 0 0]) hv rfl
  refine bodyPost_ret (results_single rfl (.cell (w.heap.size + 1) 26 #[.slice none 0 0, .slice none 0 0, .slice none 0 0, .slice none 0 0, .slice none 0 0, .slice none 0 0] (0, 0) _ rfl hres Try.underlying26 rfl i26 .nil)) rfl ?_
  exact ⟨rfl, setCells_below hb (by omega) _⟩
 ·have hz := z26
  go_enter Try.func14, Try.ntmps14
  go_upto_region 2 with fail
  clear e0 e1 e3
  go_wp2_with ((with_reducible refine gate_store (t := 26) (p := 2) (v := .tmp 32) rfl ?_); refine wpList_store_var rfl 26 (.tmp 2) (.tmp 32) rfl (w.heap.size + 1) #[.slice none 0 0, .slice none 0 0, .slice none 0 0, .slice none 0 0, .slice none 0 0, .slice none 0 0] ?hx ?hy hv rfl i26 (by simp [Value.oneCell']) ?_; (case hx => rfl); (case hy => rfl))
  (try simp only [Exit.inBlock, Exit.then])
  have hres := setCells_var (vs := #[.slice none 0 0, .slice none 0 0, .slice none 0 0, .slice none 0 0, .slice none 0 0, .slice none 0 0]) hv rfl
  refine bodyPost_ret (results_single rfl (.cell (w.heap.size + 1) 26 #[.slice none 0 0, .slice none 0 0, .slice none 0 0, .slice none 0 0, .slice none 0 0, .slice none 0 0] (0, 0) _ rfl hres Try.underlying26 rfl i26 .nil)) rfl ?_
  exact ⟨rfl, setCells_below hb (by omega) _⟩
 ·have hz := z26
  go_enter Try.func14, Try.ntmps14
  go_upto_region 2 with fail
  clear e0 e1 e3
  go_wp2_with ((with_reducible refine gate_store (t := 26) (p := 2) (v := .tmp 32) rfl ?_); refine wpList_store_var rfl 26 (.tmp 2) (.tmp 32) rfl (w.heap.size + 1) #[.slice none 0 0, .slice none 0 0, .slice none 0 0, .slice none 0 0, .slice none 0 0, .slice none 0 0] ?hx ?hy hv rfl i26 (by simp [Value.oneCell']) ?_; (case hx => rfl); (case hy => rfl))
  (try simp only [Exit.inBlock, Exit.then])
  have hres := setCells_var (vs := #[.slice none 0 0, .slice none 0 0, .slice none 0 0, .slice none 0 0, .slice none 0 0, .slice none 0 0]) hv rfl
  refine bodyPost_ret (results_single rfl (.cell (w.heap.size + 1) 26 #[.slice none 0 0, .slice none 0 0, .slice none 0 0, .slice none 0 0, .slice none 0 0, .slice none 0 0] (0, 0) _ rfl hres Try.underlying26 rfl i26 .nil)) rfl ?_
  exact ⟨rfl, setCells_below hb (by omega) _⟩
theorem compile_big (p : Pol) (w : World) (hB : Big p.d) : Calls Try.prog 16 #[.agg p.cells] w fun e w' => e = .returned gNil.val ∧ Below w.heap.size w w' := by
 obtain ⟨d, A0, c0, A1, c1, A2, c2, A3, c3, A4, c4, A5, c5, A6, c6, A7, c7, A8, c8, A9, c9, A10, c10⟩ := p
 have hB : Big d := hB
 have Za : Stays (w.alloc (.cells #[.slice A0 d.acts.length c0, .slice A1 d.subs.length c1, .slice A2 d.roles.length c2, .slice A3 d.objs.length c3, .slice A4 d.grps.length c4, .slice A5 d.mem.length c5, .slice A6 d.inh.length c6, .slice A7 d.par.length c7, .slice A8 d.wit.length c8, .slice A9 d.rules.length c9, .slice A10 d.exc.length c10] 39)) w.heap.size #[.slice A0 d.acts.length c0, .slice A1 d.subs.length c1, .slice A2 d.roles.length c2, .slice A3 d.objs.length c3, .slice A4 d.grps.length c4, .slice A5 d.mem.length c5, .slice A6 d.inh.length c6, .slice A7 d.par.length c7, .slice A8 d.wit.length c8, .slice A9 d.rules.length c9, .slice A10 d.exc.length c10] 39 := heap_alloc_new w _
 have e0 := Za.cell 0
 have e1 := Za.cell 1
 have e3 := Za.cell 3
 simp only [Jt, Ju, Jv] at e0 e1 e3
 clear Za
 have hv : Stays ((w.alloc (.cells #[.slice A0 d.acts.length c0, .slice A1 d.subs.length c1, .slice A2 d.roles.length c2, .slice A3 d.objs.length c3, .slice A4 d.grps.length c4, .slice A5 d.mem.length c5, .slice A6 d.inh.length c6, .slice A7 d.par.length c7, .slice A8 d.wit.length c8, .slice A9 d.rules.length c9, .slice A10 d.exc.length c10] 39)).alloc (.cells #[.slice none 0 0, .slice none 0 0, .slice none 0 0, .slice none 0 0, .slice none 0 0, .slice none 0 0] 26)) (w.heap.size + 1) #[.slice none 0 0, .slice none 0 0, .slice none 0 0, .slice none 0 0, .slice none 0 0, .slice none 0 0] 26 := by
  have h := heap_alloc_new (w.alloc (.cells #[.slice A0 d.acts.length c0, .slice A1 d.subs.length c1, .slice A2 d.roles.length c2, .slice A3 d.objs.length c3, .slice A4 d.grps.length c4, .slice A5 d.mem.length c5, .slice A6 d.inh.length c6, .slice A7 d.par.length c7, .slice A8 d.wit.length c8, .slice A9 d.rules.length c9, .slice A10 d.exc.length c10] 39)) (.cells #[.slice none 0 0, .slice none 0 0, .slice none 0 0, .slice none 0 0, .slice none 0 0, .slice none 0 0] 26)
  rw [World.size_alloc] at h
  exact h
 have hb := below_alloc (below_alloc (Below.refl w.heap.size w) (.cells #[.slice A0 d.acts.length c0, .slice A1 d.subs.length c1, .slice A2 d.roles.length c2, .slice A3 d.objs.length c3, .slice A4 d.grps.length c4, .slice A5 d.mem.length c5, .slice A6 d.inh.length c6, .slice A7 d.par.length c7, .slice A8 d.wit.length c8, .slice A9 d.rules.length c9, .slice A10 d.exc.length c10] 39)) (.cells #[.slice none 0 0, .slice none 0 0, .slice none 0 0, .slice none 0 0, .slice none 0 0, .slice none 0 0] 26)
 unfold Pol.cells
 simp only []
 unfold Big at hB
 rcases hB with h1 | ⟨h1, h2⟩ | ⟨h1, h2, h3⟩
 ·have hz := z26
  go_enter Try.func16, Try.ntmps16
  go_upto_region 2 with fail
  clear e0 e1 e3
  go_wp2_with ((with_reducible refine gate_store (t := 26) (p := 2) (v := .tmp 35) rfl ?_); refine wpList_store_var rfl 26 (.tmp 2) (.tmp 35) rfl (w.heap.size + 1) #[.slice none 0 0, .slice none 0 0, .slice none 0 0, .slice none 0 0, .slice none 0 0, .slice none 0 0] ?hx ?hy hv rfl i26 (by simp [Value.oneCell']) ?_; (case hx => rfl); (case hy => rfl))
  (try simp only [Exit.inBlock, Exit.then])
  have hres := setCells_var (vs := #[.slice none 0 0, .slice none 0 0, .slice none 0 0, .slice none 0 0, .slice none 0 0, .slice none 0 0]) hv rfl
  refine bodyPost_ret (results_single rfl (.cell (w.heap.size + 1) 26 #[.slice none 0 0, .slice none 0 0, .slice none 0 0, .slice none 0 0, .slice none 0 0, .slice none 0 0] (0, 0) _ rfl hres Try.underlying26 rfl i26 .nil)) rfl ?_
  exact ⟨rfl, setCells_below hb (by omega) _⟩
 ·have hz := z26
  go_enter Try.func16, Try.ntmps16
  go_upto_region 2 with fail
  clear e0 e1 e3
  go_wp2_with ((with_reducible refine gate_store (t := 26) (p := 2) (v := .tmp 35) rfl ?_); refine wpList_store_var rfl 26 (.tmp 2) (.tmp 35) rfl (w.heap.size + 1) #[.slice none 0 0, .slice none 0 0, .slice none 0 0, .slice none 0 0, .slice none 0 0, .slice none 0 0] ?hx ?hy hv rfl i26 (by simp [Value.oneCell']) ?_; (case hx => rfl); (case hy => rfl))
  (try simp only [Exit.inBlock, Exit.then])
  have hres := setCells_var (vs := #[.slice none 0 0, .slice none 0 0, .slice none 0 0, .slice none 0 0, .slice none 0 0, .slice none 0 0]) hv rfl
  refine bodyPost_ret (results_single rfl (.cell (w.heap.size + 1) 26 #[.slice none 0 0, .slice none 0 0, .slice none 0 0, .slice none 0 0, .slice none 0 0, .slice none 0 0] (0, 0) _ rfl hres Try.underlying26 rfl i26 .nil)) rfl ?_
  exact ⟨rfl, setCells_below hb (by omega) _⟩
 ·have hz := z26
  go_enter Try.func16, Try.ntmps16
  go_upto_region 2 with fail
  clear e0 e1 e3
  go_wp2_with ((with_reducible refine gate_store (t := 26) (p := 2) (v := .tmp 35) rfl ?_); refine wpList_store_var rfl 26 (.tmp 2) (.tmp 35) rfl (w.heap.size + 1) #[.slice none 0 0, .slice none 0 0, .slice none 0 0, .slice none 0 0, .slice none 0 0, .slice none 0 0] ?hx ?hy hv rfl i26 (by simp [Value.oneCell']) ?_; (case hx => rfl); (case hy => rfl))
  (try simp only [Exit.inBlock, Exit.then])
  have hres := setCells_var (vs := #[.slice none 0 0, .slice none 0 0, .slice none 0 0, .slice none 0 0, .slice none 0 0, .slice none 0 0]) hv rfl
  refine bodyPost_ret (results_single rfl (.cell (w.heap.size + 1) 26 #[.slice none 0 0, .slice none 0 0, .slice none 0 0, .slice none 0 0, .slice none 0 0, .slice none 0 0] (0, 0) _ rfl hres Try.underlying26 rfl i26 .nil)) rfl ?_
  exact ⟨rfl, setCells_below hb (by omega) _⟩
end Go.Proofs.Ythaiodklfoegiaa.OBig
/- gatehouselaw11.whole, walked: a marked graph. -/
namespace Go.Proofs.Ythaiodklfoegiaa.OWhole
open Go.RowKit YthaiodklfoegiaaW.PrintWords YthaiodklfoegiaaW.PrintLast YthaiodklfoegiaaW.PrintMore CSame GValid GDiffer MSide MPol OBase OMark OMarkW Go.Maps
open PG
theorem fam_cell {α : Type} {enc : α → Value} {h1 : ∀ x, (enc x).oneCell' = true} {e s0 s1 i k b m c : Nat} {W : World} {V : List Value} {L : List (List α)} (h : Fam (Kd.scalar enc h1) e W s0 s1 V L) (hv : V[i]? = some (.slice (some ⟨b, 0, none⟩) m c)) {l : List α} (hl : L[i]? = some l) (hk : k < l.length) (x : α) (hx : ∀ z ∈ l, z = x) : W.cell? ⟨b, k, none⟩ = some (enc x) := by
 have hR := h.each i _ l hv hl
 have hm : m = l.length := (Kd.R_reads' hR).1
 obtain ⟨cc, _, hM, hcc, _⟩ := Kd.R_elem hR x (k : Int) (by omega) (by omega)
 have hg : l.getD (k : Int).toNat x = x := by
  rw [Int.toNat_natCast, List.getD_eq_getElem?_getD, List.getElem?_eq_getElem hk]
  exact hx _ (List.getElem_mem hk)
 rw [hg] at hM
 have hM : cc = [enc x] := hM
 have h0 := hcc 0 (enc x) (by rw [hM]; rfl)
 have hd : (Kd.scalar enc h1).sz = 1 := rfl
 rw [hd, Int.toNat_natCast, Nat.mul_one, Nat.add_zero] at h0
 exact h0
theorem fam_get {α : Type} {d : Kd α} {e s0 s1 : Nat} {W : World} {V : List Value} {L : List (List α)} {i : Nat} (h : Fam d e W s0 s1 V L) (hi : i < V.length) :
  ∃ A c, V[i]? = some (.slice A (L.getD i []).length c) ∧ L[i]? = some (L.getD i []) := by
 have hi' : i < L.length := by rw [← h.len]; exact hi
 have hc : L[i]? = some (L.getD i []) := by rw [List.getElem?_eq_getElem hi', List.getD_eq_getElem?_getD, List.getElem?_eq_getElem hi']; rfl
 obtain ⟨A, c, hv⟩ := Kd.R_slice (h.each i V[i] _ (List.getElem?_eq_getElem hi) hc)
 exact ⟨A, c, by rw [List.getElem?_eq_getElem hi, hv], hc⟩
theorem whole_calls (g : G) (hs : List Value) (s0 s1 : Nat) (n : Nat) (hn : n ≤ 2) (w : World) (h : Own w s0 s1 g hs) (hw : Few g) (hf3 : Full (wordB n) [g.la, g.ls, g.lo]) (hf2 : Full (numI n) [g.of, g.on]) (hfm : Full (mskI n) g.ms) :
  Calls Try.prog 21 #[g.val, .int .i64 n] w fun e w' => e = .returned (.bool true) ∧ Below w.heap.size w w' := by
 obtain ⟨A0, c0, la, A1, c1, ls, A2, c2, lo, A3, c3, of, A4, c4, on, A5, c5, ms⟩ := g
 have hst : Stays (w.alloc (.cells #[.slice A0 la.length c0, .slice A1 ls.length c1, .slice A2 lo.length c2, .slice A3 of.length c3, .slice A4 on.length c4, .slice A5 ms.length c5] 26)) w.heap.size #[.slice A0 la.length c0, .slice A1 ls.length c1, .slice A2 lo.length c2, .slice A3 of.length c3, .slice A4 on.length c4, .slice A5 ms.length c5] 26 := heap_alloc_new w _
 have e0 := hst.cell 0
 have e1 := hst.cell 1
 have e2 := hst.cell 2
 have e3 := hst.cell 3
 have e4 := hst.cell 4
 simp only [Jt, Ju, Jv] at e0 e1 e2 e3 e4
 unfold G.val
 simp only [] at hf3 hf2 hfm ⊢
 have H := jA h
 have HW := jA hw
 have HST := jA hst
 have HF3 := jA hf3
 have HF2 := jA hf2
 have HFM := jA hfm
 clear h hst hw hf3 hf2 hfm
 go_enter Try.func21, Try.ntmps21
 go_upto_region 3 with fail
 clear e0 e1 e2 e3 e4
 have hb1 := below_alloc (below_alloc (Below.refl _ (w.alloc (.cells #[.slice A0 la.length c0, .slice A1 ls.length c1, .slice A2 lo.length c2, .slice A3 of.length c3, .slice A4 on.length c4, .slice A5 ms.length c5] 26))) (.cells #[.slice A0 la.length c0, .slice A1 ls.length c1, .slice A2 lo.length c2] 22)) (.cells #[.slice A3 of.length c3, .slice A4 on.length c4] 23)
 have hb0 := below_alloc (below_alloc (below_alloc (Below.refl w.heap.size w) (.cells #[.slice A0 la.length c0, .slice A1 ls.length c1, .slice A2 lo.length c2, .slice A3 of.length c3, .slice A4 on.length c4, .slice A5 ms.length c5] 26)) (.cells #[.slice A0 la.length c0, .slice A1 ls.length c1, .slice A2 lo.length c2] 22)) (.cells #[.slice A3 of.length c3, .slice A4 on.length c4] 23)
 have hx1 := HST.out.below hb1
 have hx2 : Stays (((w.alloc (.cells #[.slice A0 la.length c0, .slice A1 ls.length c1, .slice A2 lo.length c2, .slice A3 of.length c3, .slice A4 on.length c4, .slice A5 ms.length c5] 26)).alloc (.cells #[.slice A0 la.length c0, .slice A1 ls.length c1, .slice A2 lo.length c2] 22)).alloc (.cells #[.slice A3 of.length c3, .slice A4 on.length c4] 23)) (w.heap.size + 1) #[.slice A0 la.length c0, .slice A1 ls.length c1, .slice A2 lo.length c2] 22 := by
  have h2 : Stays ((w.alloc (.cells #[.slice A0 la.length c0, .slice A1 ls.length c1, .slice A2 lo.length c2, .slice A3 of.length c3, .slice A4 on.length c4, .slice A5 ms.length c5] 26)).alloc (.cells #[.slice A0 la.length c0, .slice A1 ls.length c1, .slice A2 lo.length c2] 22)) (w.alloc (.cells #[.slice A0 la.length c0, .slice A1 ls.length c1, .slice A2 lo.length c2, .slice A3 of.length c3, .slice A4 on.length c4, .slice A5 ms.length c5] 26)).heap.size #[.slice A0 la.length c0, .slice A1 ls.length c1, .slice A2 lo.length c2] 22 := heap_alloc_new _ _
  rw [World.size_alloc] at h2
  exact h2.below (below_alloc (Below.refl _ _) _)
 have hx3 : Stays (((w.alloc (.cells #[.slice A0 la.length c0, .slice A1 ls.length c1, .slice A2 lo.length c2, .slice A3 of.length c3, .slice A4 on.length c4, .slice A5 ms.length c5] 26)).alloc (.cells #[.slice A0 la.length c0, .slice A1 ls.length c1, .slice A2 lo.length c2] 22)).alloc (.cells #[.slice A3 of.length c3, .slice A4 on.length c4] 23)) (w.heap.size + 1 + 1) #[.slice A3 of.length c3, .slice A4 on.length c4] 23 := by
  have h2 : Stays (((w.alloc (.cells #[.slice A0 la.length c0, .slice A1 ls.length c1, .slice A2 lo.length c2, .slice A3 of.length c3, .slice A4 on.length c4, .slice A5 ms.length c5] 26)).alloc (.cells #[.slice A0 la.length c0, .slice A1 ls.length c1, .slice A2 lo.length c2] 22)).alloc (.cells #[.slice A3 of.length c3, .slice A4 on.length c4] 23)) ((w.alloc (.cells #[.slice A0 la.length c0, .slice A1 ls.length c1, .slice A2 lo.length c2, .slice A3 of.length c3, .slice A4 on.length c4, .slice A5 ms.length c5] 26)).alloc (.cells #[.slice A0 la.length c0, .slice A1 ls.length c1, .slice A2 lo.length c2] 22)).heap.size #[.slice A3 of.length c3, .slice A4 on.length c4] 23 := heap_alloc_new _ _
  rw [World.size_alloc, World.size_alloc] at h2
  exact h2
 have hO := H.out.below hb0
 obtain ⟨W1, hW1⟩ : ∃ W1, W1 = (((w.alloc (.cells #[.slice A0 la.length c0, .slice A1 ls.length c1, .slice A2 lo.length c2, .slice A3 of.length c3, .slice A4 on.length c4, .slice A5 ms.length c5] 26)).alloc (.cells #[.slice A0 la.length c0, .slice A1 ls.length c1, .slice A2 lo.length c2] 22)).alloc (.cells #[.slice A3 of.length c3, .slice A4 on.length c4] 23)) := ⟨_, rfl⟩
 obtain ⟨gb, hgb⟩ : ∃ gb, gb = w.heap.size := ⟨_, rfl⟩
 obtain ⟨gl, hgl⟩ : ∃ gl, gl = w.heap.size + 1 := ⟨_, rfl⟩
 obtain ⟨gm, hgm⟩ : ∃ gm, gm = w.heap.size + 1 + 1 := ⟨_, rfl⟩
 rw [← hW1] at hb0 hx1 hx2 hx3 hO ⊢
 rw [← hgm] at hx3 ⊢
 rw [← hgl] at hx2 ⊢
 have HB0 := jA hb0
 rw [← hgb] at hx1 ⊢
 have HX1 := jA hx1
 have HX2 := jA hx2
 have HX3 := jA hx3
 have HO := jA hO
 have HM := jA (Below.refl W1.heap.size W1)
 clear hb0 hb1 hx1 hx2 hx3 hO hW1 hgb hgl hgm HST
 go_wp2
 go_loopw [7] (fun u7 wr => ∃ (i : Nat), i ≤ 3 ∧ u7 = .int .i64 i ∧ Aside0 (Below W1.heap.size W1 wr)) (fun u7 _ => 3 - (intOf u7).toNat)
 case atStart => exact ⟨0, by omega, rfl, HM⟩
 case round =>
  clear HM
  obtain ⟨i, hi, rfl, HM⟩ := hrel
  by_cases hlt : i < 3
  ·have hlt' : (i : Int) < 3 := by omega
   obtain ⟨m, hm⟩ : ∃ m, m = ([la, ls, lo].getD i []).length := ⟨_, rfl⟩
   have Za : m ≤ 64 := by
    have h0 := HW.out.la; have h1 := HW.out.ls; have h2 := HW.out.lo
    simp only [] at h0 h1 h2
    rw [hm]
    match i, hlt with
    | 0, _ => simpa using h0
    | 1, _ => simpa using h1
    | 2, _ => simpa using h2
   have HMM := jA hm
   clear hm
   go_wp2
   go_loopw [8] (fun u8 wr => ∃ (k : Nat), k ≤ m ∧ u8 = .int .i64 k ∧ Aside0 (Below W1.heap.size W1 wr)) (fun u8 _ => m - (intOf u8).toNat)
   case atStart => exact ⟨0, by omega, rfl, HM⟩
   case round =>
    clear HM
    obtain ⟨k, hk, rfl, HM⟩ := hrel
    obtain ⟨A, c, hv, hc⟩ := fam_get ((own_str HO.out).below rfl HM.out) (i := i) (by simpa using hlt)
    simp only [] at hv hc
    rw [← HMM.out] at hv
    have hcell : wr.cell? ⟨gl, i, none⟩ = some (.slice A m c) := by
     rw [(HX2.out.below HM.out).cell i, ← hv]; simp
    by_cases hkm : k < m
    ·have hkm' : (k : Int) < m := by omega
     obtain ⟨b, hb⟩ := fam_form ((own_str HO.out).below rfl HM.out) hv hc (by (try simp only []); rw [← HMM.out]; omega)
     subst hb
     have hword : wr.cell? ⟨b, k, none⟩ = some (.string (wordB n i)) := fam_cell ((own_str HO.out).below rfl HM.out) hv hc (by (try simp only []); rw [← HMM.out]; exact hkm) (wordB n i) (HF3.out i)
     have HCELL := jA (show wr.drew.cell? _ = _ from hcell)
     have HWORD := jA (show wr.drew.cell? _ = _ from hword)
     clear hv hc hword
     go_upto_region 9 with fail
     refine start_ (n := 11) (S := fun w' => w'.cell? ⟨gl, i, none⟩ = some (.slice (some ⟨b, 0, none⟩) m c) ∧ w'.cell? ⟨b, k, none⟩ = some (.string (wordB n i))) (ds := []) (Jb 11 0) (by kernel_rfl) rfl (by kernel_rfl) ⟨HCELL.out, HWORD.out⟩ (fun hHeld => ?_)
     refine Jp 0 40 (Jb 11 1) rfl rfl ?_
     refine Jp 1 41 (Jb 11 3) rfl rfl ?_
     refine Jp 2 42 (Jb 11 7) rfl rfl ?_
     refine Jk 3 43 (Jb 11 15) rfl rfl hHeld (.inl ⟨by rfl, by rintro w' ⟨s0, s1⟩; go_simp; with_reducible rfl⟩) ?_
     refine Jp 4 44 (Jb 11 31) rfl rfl ?_
     refine Jp 5 45 (Jb 11 63) rfl rfl ?_
     refine Jk 6 46 (Jb 11 127) rfl rfl hHeld (.inl ⟨by rfl, by rintro w' ⟨s0, s1⟩; go_simp; with_reducible rfl⟩) ?_
     refine Jp 7 47 (Jb 11 255) rfl rfl ?_
     refine Jp 8 48 (Jb 11 511) rfl rfl ?_
     refine one_ (i := 9) (N := some 49) (Jb 11 1023) rfl rfl (by kernel_rfl) (by decide) (fun K hK => ?_)
     refine goes_ Try.func55 (by kernel_rfl) rfl #[.int .i64 n, .int .i64 i] (by rfl) rfl rfl (by (try simp only [List.map_toArray, List.map_cons, List.map_nil]); first | done | rfl) ?_
     refine (word_go n i hn hlt _).mono ?_
     rintro e w1 ⟨rfl, hb1⟩
     refine ⟨_, rfl, ?_⟩
     have hb2 : Below wr.heap.size wr w1 := below_then (below_drew (Below.refl wr.heap.size wr)) (Nat.le_refl _) hb1
     have hS1 := And.intro (pw_cell_below hb2 HCELL.out) (pw_cell_below hb2 HWORD.out)
     have HF := jA (below_then HM.out HM.out.size hb2)
     clear hb1 hb2
     refine hK.out _ _ hS1 (fun hHeld => ?_)
     clear hK K hS1
     refine norm_ (a' := ?_) ?_ ?_; rotate_left; (show Act.put _ (some 49) _ = _; simp only [Act.put, Jq, Jr, Js]; rfl)
     refine Jp 10 50 (Jb 11 2047) rfl rfl ?_
     clear hHeld
     refine done_ (by kernel_rfl) ?_
     go_wp2
     go_roundw
     case rel => exact ⟨k + 1, by omega, by go_num, HF⟩
     case measure => simp [intOf]; omega
    ·have Zb : ¬ ((k : Int) < m) := by omega
     clear hv hc
     go_wp2
     go_roundw
     case rel => exact ⟨i + 1, by omega, by go_num, HM⟩
     case measure => simp [intOf]; omega
  ·have hi3 : i = 3 := by omega
   subst hi3
   have hlt' : ¬ (((3 : Nat) : Int) < 3) := by omega
   clear hlt hi
   go_wp2
   go_loopw [9] (fun u9 wr => ∃ (i : Nat), i ≤ 2 ∧ u9 = .int .i64 i ∧ Aside0 (Below W1.heap.size W1 wr)) (fun u9 _ => 2 - (intOf u9).toNat)
   case atStart => exact ⟨0, by omega, rfl, HM⟩
   case round =>
    clear HM
    obtain ⟨i, hi, rfl, HM⟩ := hrel
    by_cases hlt : i < 2
    ·have hlt' : (i : Int) < 2 := by omega
     obtain ⟨m, hm⟩ : ∃ m, m = ([of, on].getD i []).length := ⟨_, rfl⟩
     have Za : m ≤ 64 := by
      have h0 := HW.out.of; have h1 := HW.out.on
      simp only [] at h0 h1
      rw [hm]
      match i, hlt with
      | 0, _ => simpa using h0
      | 1, _ => simpa using h1
     have HMM := jA hm
     clear hm
     go_wp2
     go_loopw [10] (fun u10 wr => ∃ (k : Nat), k ≤ m ∧ u10 = .int .i64 k ∧ Aside0 (Below W1.heap.size W1 wr)) (fun u10 _ => m - (intOf u10).toNat)
     case atStart => exact ⟨0, by omega, rfl, HM⟩
     case round =>
      clear HM
      obtain ⟨k, hk, rfl, HM⟩ := hrel
      obtain ⟨A, c, hv, hc⟩ := fam_get ((own_num HO.out).below rfl HM.out) (i := i) (by simpa using hlt)
      simp only [] at hv hc
      rw [← HMM.out] at hv
      have hcell : wr.cell? ⟨gm, i, none⟩ = some (.slice A m c) := by
       rw [(HX3.out.below HM.out).cell i, ← hv]; simp
      by_cases hkm : k < m
      ·have hkm' : (k : Int) < m := by omega
       obtain ⟨b, hb⟩ := fam_form ((own_num HO.out).below rfl HM.out) hv hc (by (try simp only []); rw [← HMM.out]; omega)
       subst hb
       have hword : wr.cell? ⟨b, k, none⟩ = some (.int .i64 (numI n i)) := fam_cell ((own_num HO.out).below rfl HM.out) hv hc (by (try simp only []); rw [← HMM.out]; exact hkm) (numI n i) (HF2.out i)
       have HCELL := jA (show wr.drew.cell? _ = _ from hcell)
       have HWORD := jA (show wr.drew.cell? _ = _ from hword)
       clear hv hc hword
       go_upto_region 17 with fail
       refine start_ (n := 11) (S := fun w' => w'.cell? ⟨gm, i, none⟩ = some (.slice (some ⟨b, 0, none⟩) m c) ∧ w'.cell? ⟨b, k, none⟩ = some (.int .i64 (numI n i))) (ds := []) (Jb 11 0) (by kernel_rfl) rfl (by kernel_rfl) ⟨HCELL.out, HWORD.out⟩ (fun hHeld => ?_)
       refine Jp 0 66 (Jb 11 1) rfl rfl ?_
       refine Jp 1 67 (Jb 11 3) rfl rfl ?_
       refine Jp 2 68 (Jb 11 7) rfl rfl ?_
       refine Jk 3 69 (Jb 11 15) rfl rfl hHeld (.inl ⟨by rfl, by rintro w' ⟨s0, s1⟩; go_simp; with_reducible rfl⟩) ?_
       refine Jp 4 70 (Jb 11 31) rfl rfl ?_
       refine Jp 5 71 (Jb 11 63) rfl rfl ?_
       refine Jk 6 72 (Jb 11 127) rfl rfl hHeld (.inl ⟨by rfl, by rintro w' ⟨s0, s1⟩; go_simp; with_reducible rfl⟩) ?_
       refine Jp 7 73 (Jb 11 255) rfl rfl ?_
       refine Jp 8 74 (Jb 11 511) rfl rfl ?_
       refine one_ (i := 9) (N := some 75) (Jb 11 1023) rfl rfl (by kernel_rfl) (by decide) (fun K hK => ?_)
       refine goes_ Try.func56 (by kernel_rfl) rfl #[.int .i64 n, .int .i64 i] (by rfl) rfl rfl (by (try simp only [List.map_toArray, List.map_cons, List.map_nil]); first | done | rfl) ?_
       refine (number_go n i _).mono ?_
       rintro e w1 ⟨rfl, hb1⟩
       refine ⟨_, rfl, ?_⟩
       have hb2 : Below wr.heap.size wr w1 := below_then (below_drew (Below.refl wr.heap.size wr)) (Nat.le_refl _) hb1
       have hS1 := And.intro (pw_cell_below hb2 HCELL.out) (pw_cell_below hb2 HWORD.out)
       have HF := jA (below_then HM.out HM.out.size hb2)
       clear hb1 hb2
       refine hK.out _ _ hS1 (fun hHeld => ?_)
       clear hK K hS1
       refine norm_ (a' := ?_) ?_ ?_; rotate_left; (show Act.put _ (some 75) _ = _; simp only [Act.put, Jq, Jr, Js]; rfl)
       refine Jp 10 76 (Jb 11 2047) rfl rfl ?_
       clear hHeld
       refine done_ (by kernel_rfl) ?_
       go_wp2
       go_roundw
       case rel => exact ⟨k + 1, by omega, by go_num, HF⟩
       case measure => simp [intOf]; omega
      ·have Zb : ¬ ((k : Int) < m) := by omega
       clear hv hc
       go_wp2
       go_roundw
       case rel => exact ⟨i + 1, by omega, by go_num, HM⟩
       case measure => simp [intOf]; omega
    ·have hi3 : i = 2 := by omega
     subst hi3
     have hlt' : ¬ (((2 : Nat) : Int) < 2) := by omega
     clear hlt hi
     have hl5 := HW.out.ms
     simp only [] at hl5
     have hhl : hs.length = ms.length := HO.out.rows.len
     have HHL := jA hhl
     clear hhl
     go_wp2
     go_loopw [11] (fun u11 wr => ∃ (i : Nat), i ≤ ms.length ∧ u11 = .int .i64 i ∧ Aside0 (Below W1.heap.size W1 wr)) (fun u11 _ => ms.length - (intOf u11).toNat)
     case atStart => exact ⟨0, by omega, rfl, HM⟩
     case round =>
      clear HM
      obtain ⟨i, hi, rfl, HM⟩ := hrel
      have x5 := (HX1.out.below HM.out).cell 5
      simp only [Jt, Ju, Jv] at x5
      by_cases hlt : i < ms.length
      ·have hlt' : (i : Int) < ms.length := by omega
       obtain ⟨m, hm⟩ : ∃ m, m = (ms.getD i []).length := ⟨_, rfl⟩
       have Za : m ≤ 64 := by rw [hm]; exact HW.out.each i
       have HMM := jA hm
       obtain ⟨g5, e5⟩ := raw_form HO.out.r5 (by rw [List.length_map, HHL.out]; omega)
       simp only [] at e5
       subst e5
       clear hm
       go_wp2
       go_loopw [12] (fun u12 wr => ∃ (k : Nat), k ≤ m ∧ u12 = .int .i64 k ∧ Aside0 (Below W1.heap.size W1 wr)) (fun u12 _ => m - (intOf u12).toNat)
       case atStart => exact ⟨0, by omega, rfl, HM⟩
       case round =>
        clear HM x5
        obtain ⟨k, hk, rfl, HM⟩ := hrel
        have x5 := (HX1.out.below HM.out).cell 5
        simp only [Jt, Ju, Jv] at x5
        have hfr := (fam_rows HO.out.rows HO.out.lt).below rfl HM.out
        obtain ⟨A, c, hv, hc⟩ := fam_get hfr (i := i) (by rw [HHL.out]; exact hlt)
        simp only [] at hv hc
        rw [← HMM.out] at hv
        have hcell : wr.cell? ⟨g5, i, none⟩ = some (.slice A m c) := raw_at (Kd.R_below HO.out.r5 HM.out) hv
        by_cases hkm : k < m
        ·have hkm' : (k : Int) < m := by omega
         obtain ⟨b, hb⟩ := fam_form hfr hv hc (by (try simp only []); rw [← HMM.out]; omega)
         subst hb
         have hword : wr.cell? ⟨b, k, none⟩ = some (.int .u16 (mskI n i)) := fam_cell hfr hv hc (by (try simp only []); rw [← HMM.out]; exact hkm) (mskI n i) (HFM.out i)
         have HCELL := jA (show wr.drew.cell? _ = _ from hcell)
         have HWORD := jA (show wr.drew.cell? _ = _ from hword)
         have HX5 := jA (show wr.drew.cell? _ = _ from x5)
         clear hv hc hword hfr
         go_upto_region 25 with fail
         refine start_ (n := 12) (S := fun w' => w'.cell? ⟨gb, 5, none⟩ = some (.slice (some ⟨g5, 0, none⟩) ms.length c5) ∧ w'.cell? ⟨g5, i, none⟩ = some (.slice (some ⟨b, 0, none⟩) m c) ∧ w'.cell? ⟨b, k, none⟩ = some (.int .u16 (mskI n i))) (ds := []) (Jb 12 0) (by kernel_rfl) rfl (by kernel_rfl) ⟨HX5.out, HCELL.out, HWORD.out⟩ (fun hHeld => ?_)
         refine Jp 0 94 (Jb 12 1) rfl rfl ?_
         refine Jk 1 95 (Jb 12 3) rfl rfl hHeld (.inl ⟨by rfl, by rintro w' ⟨s0, s1, s2⟩; go_simp; with_reducible rfl⟩) ?_
         refine Jp 2 96 (Jb 12 7) rfl rfl ?_
         refine Jp 3 97 (Jb 12 15) rfl rfl ?_
         refine Jk 4 98 (Jb 12 31) rfl rfl hHeld (.inl ⟨by rfl, by rintro w' ⟨s0, s1, s2⟩; go_simp; with_reducible rfl⟩) ?_
         refine Jp 5 99 (Jb 12 63) rfl rfl ?_
         refine Jp 6 100 (Jb 12 127) rfl rfl ?_
         refine Jk 7 101 (Jb 12 255) rfl rfl hHeld (.inl ⟨by rfl, by rintro w' ⟨s0, s1, s2⟩; go_simp; with_reducible rfl⟩) ?_
         refine Jp 8 102 (Jb 12 511) rfl rfl ?_
         refine Jp 9 103 (Jb 12 1023) rfl rfl ?_
         refine one_ (i := 10) (N := some 104) (Jb 12 2047) rfl rfl (by kernel_rfl) (by decide) (fun K hK => ?_)
         refine goes_ Try.func57 (by kernel_rfl) rfl #[.int .i64 n, .int .i64 i] (by rfl) rfl rfl (by (try simp only [List.map_toArray, List.map_cons, List.map_nil]); first | done | rfl) ?_
         refine (mask_go n i _).mono ?_
         rintro e w1 ⟨rfl, hb1⟩
         refine ⟨_, rfl, ?_⟩
         have hb2 : Below wr.heap.size wr w1 := below_then (below_drew (Below.refl wr.heap.size wr)) (Nat.le_refl _) hb1
         have hS1 := And.intro (pw_cell_below hb2 HX5.out) (And.intro (pw_cell_below hb2 HCELL.out) (pw_cell_below hb2 HWORD.out))
         have HF := jA (below_then HM.out HM.out.size hb2)
         clear hb1 hb2
         refine hK.out _ _ hS1 (fun hHeld => ?_)
         clear hK K hS1
         refine norm_ (a' := ?_) ?_ ?_; rotate_left; (show Act.put _ (some 104) _ = _; simp only [Act.put, Jq, Jr, Js]; rfl)
         refine Jp 11 105 (Jb 12 4095) rfl rfl ?_
         clear hHeld
         refine done_ (by kernel_rfl) ?_
         go_wp2
         go_roundw
         case rel => exact ⟨k + 1, by omega, by go_num, HF⟩
         case measure => simp [intOf]; omega
        ·have Zb : ¬ ((k : Int) < m) := by omega
         clear hv hc hfr
         go_wp2
         go_roundw
         case rel => exact ⟨i + 1, by omega, by go_num, HM⟩
         case measure => simp [intOf]; omega
      ·have hi3 : i = ms.length := by omega
       subst hi3
       have hlt' : ¬ ((ms.length : Int) < ms.length) := by omega
       clear hlt hi
       go_wp2
       go_ret
       exact ⟨rfl, below_then HB0.out HB0.out.size HM.out⟩
end Go.Proofs.Ythaiodklfoegiaa.OWhole
/- gatehouselaw11.grow, walked: what is gone on with stays its holder's. -/
namespace Go.Proofs.Ythaiodklfoegiaa.OGrow
open Go.RowKit YthaiodklfoegiaaW.PrintWords YthaiodklfoegiaaW.PrintLast YthaiodklfoegiaaW.PrintMore CSame GValid GDiffer MSide MPol OBase OMark OMarkW OWhole OGr Go.Maps
open PG
theorem infoR : (Try.prog.info? 32).map (fun i => (i.zero, i.size, i.bytes)) = some (some (.slice none 0 0), 1, 24) := by kernel_rfl
theorem wsum (a b : Nat) (ha : a ≤ 1000000) (hb : b ≤ 1000000) : wrap64 ((a : Int) + (b : Int)) = ((a + b : Nat) : Int) := by unfold wrap64; omega
theorem grow_calls (g : G) (hs : List Value) (s0 s1 : Nat) (w : World) (h : Own w s0 s1 g hs) (hs0 : s0 ≤ w.heap.size) (hs1 : s1 ≤ w.heap.size) (hw : Few g) :
  Calls Try.prog 20 #[g.val] w fun e w' => (∃ N : Nat, e = .returned (.int .i64 N) ∧ 0 < N ∧ N ≤ 100000) ∧ Own w' s0 s1 g hs ∧ Same (Blks s0 s1) w w' := by
 obtain ⟨A0, c0, la, A1, c1, ls, A2, c2, lo, A3, c3, of, A4, c4, on, A5, c5, ms⟩ := g
 have hst : Stays (w.alloc (.cells #[.slice A0 la.length c0, .slice A1 ls.length c1, .slice A2 lo.length c2, .slice A3 of.length c3, .slice A4 on.length c4, .slice A5 ms.length c5] 26)) w.heap.size #[.slice A0 la.length c0, .slice A1 ls.length c1, .slice A2 lo.length c2, .slice A3 of.length c3, .slice A4 on.length c4, .slice A5 ms.length c5] 26 := heap_alloc_new w _
 have e0 := hst.cell 0
 have e1 := hst.cell 1
 have e2 := hst.cell 2
 have e3 := hst.cell 3
 have e4 := hst.cell 4
 simp only [Jt, Ju, Jv] at e0 e1 e2 e3 e4
 unfold G.val
 simp only []
 have H := jA h
 have HW := jA hw
 have HST := jA hst
 have HS0 := jA hs0
 have HS1 := jA hs1
 clear h hst hw hs0 hs1
 go_enter Try.func20, Try.ntmps20
 go_upto_region 4 with fail
 clear e0 e1 e2 e3 e4
 have hb1 := below_alloc (below_alloc (Below.refl _ (w.alloc (.cells #[.slice A0 la.length c0, .slice A1 ls.length c1, .slice A2 lo.length c2, .slice A3 of.length c3, .slice A4 on.length c4, .slice A5 ms.length c5] 26))) (.cells #[.slice A0 la.length c0, .slice A1 ls.length c1, .slice A2 lo.length c2] 22)) (.cells #[.slice A3 of.length c3, .slice A4 on.length c4] 23)
 have hb0 := below_alloc (below_alloc (below_alloc (Below.refl w.heap.size w) (.cells #[.slice A0 la.length c0, .slice A1 ls.length c1, .slice A2 lo.length c2, .slice A3 of.length c3, .slice A4 on.length c4, .slice A5 ms.length c5] 26)) (.cells #[.slice A0 la.length c0, .slice A1 ls.length c1, .slice A2 lo.length c2] 22)) (.cells #[.slice A3 of.length c3, .slice A4 on.length c4] 23)
 have hx1 := HST.out.below hb1
 have hx2 : Stays (((w.alloc (.cells #[.slice A0 la.length c0, .slice A1 ls.length c1, .slice A2 lo.length c2, .slice A3 of.length c3, .slice A4 on.length c4, .slice A5 ms.length c5] 26)).alloc (.cells #[.slice A0 la.length c0, .slice A1 ls.length c1, .slice A2 lo.length c2] 22)).alloc (.cells #[.slice A3 of.length c3, .slice A4 on.length c4] 23)) (w.heap.size + 1) #[.slice A0 la.length c0, .slice A1 ls.length c1, .slice A2 lo.length c2] 22 := by
  have h2 : Stays ((w.alloc (.cells #[.slice A0 la.length c0, .slice A1 ls.length c1, .slice A2 lo.length c2, .slice A3 of.length c3, .slice A4 on.length c4, .slice A5 ms.length c5] 26)).alloc (.cells #[.slice A0 la.length c0, .slice A1 ls.length c1, .slice A2 lo.length c2] 22)) (w.alloc (.cells #[.slice A0 la.length c0, .slice A1 ls.length c1, .slice A2 lo.length c2, .slice A3 of.length c3, .slice A4 on.length c4, .slice A5 ms.length c5] 26)).heap.size #[.slice A0 la.length c0, .slice A1 ls.length c1, .slice A2 lo.length c2] 22 := heap_alloc_new _ _
  rw [World.size_alloc] at h2
  exact h2.below (below_alloc (Below.refl _ _) _)
 have hx3 : Stays (((w.alloc (.cells #[.slice A0 la.length c0, .slice A1 ls.length c1, .slice A2 lo.length c2, .slice A3 of.length c3, .slice A4 on.length c4, .slice A5 ms.length c5] 26)).alloc (.cells #[.slice A0 la.length c0, .slice A1 ls.length c1, .slice A2 lo.length c2] 22)).alloc (.cells #[.slice A3 of.length c3, .slice A4 on.length c4] 23)) (w.heap.size + 1 + 1) #[.slice A3 of.length c3, .slice A4 on.length c4] 23 := by
  have h2 : Stays (((w.alloc (.cells #[.slice A0 la.length c0, .slice A1 ls.length c1, .slice A2 lo.length c2, .slice A3 of.length c3, .slice A4 on.length c4, .slice A5 ms.length c5] 26)).alloc (.cells #[.slice A0 la.length c0, .slice A1 ls.length c1, .slice A2 lo.length c2] 22)).alloc (.cells #[.slice A3 of.length c3, .slice A4 on.length c4] 23)) ((w.alloc (.cells #[.slice A0 la.length c0, .slice A1 ls.length c1, .slice A2 lo.length c2, .slice A3 of.length c3, .slice A4 on.length c4, .slice A5 ms.length c5] 26)).alloc (.cells #[.slice A0 la.length c0, .slice A1 ls.length c1, .slice A2 lo.length c2] 22)).heap.size #[.slice A3 of.length c3, .slice A4 on.length c4] 23 := heap_alloc_new _ _
  rw [World.size_alloc, World.size_alloc] at h2
  exact h2
 have hO := H.out.below hb0
 obtain ⟨W1, hW1⟩ : ∃ W1, W1 = (((w.alloc (.cells #[.slice A0 la.length c0, .slice A1 ls.length c1, .slice A2 lo.length c2, .slice A3 of.length c3, .slice A4 on.length c4, .slice A5 ms.length c5] 26)).alloc (.cells #[.slice A0 la.length c0, .slice A1 ls.length c1, .slice A2 lo.length c2] 22)).alloc (.cells #[.slice A3 of.length c3, .slice A4 on.length c4] 23)) := ⟨_, rfl⟩
 obtain ⟨gb, hgb⟩ : ∃ gb, gb = w.heap.size := ⟨_, rfl⟩
 obtain ⟨gl, hgl⟩ : ∃ gl, gl = w.heap.size + 1 := ⟨_, rfl⟩
 obtain ⟨gm, hgm⟩ : ∃ gm, gm = w.heap.size + 1 + 1 := ⟨_, rfl⟩
 rw [← hW1] at hb0 hx1 hx2 hx3 hO ⊢
 rw [← hgm] at hx3 ⊢
 rw [← hgl] at hx2 ⊢
 have HB0 := jA hb0
 rw [← hgb] at hx1 ⊢
 have HX1 := jA hx1
 have HX2 := jA hx2
 have HX3 := jA hx3
 have HO := jA hO
 have HM := jA (Ms.mk (W1 := W1) (own_str HO.out) (own_num HO.out) (fam_rows HO.out.rows HO.out.lt) HO.out.r5 (Same.refl (Blks s0 s1) W1))
 have HHL := jA HO.out.rows.len
 have HSB := jA (Nat.le_trans HS0.out hb0.size)
 have GBN := jA (show ∀ k, gb = k → s0 ≤ k ∧ k < s1 → False from fun k e hk => by have := HS1.out; omega)
 have GLN := jA (show ∀ k, gl = k → s0 ≤ k ∧ k < s1 → False from fun k e hk => by have := HS1.out; omega)
 have GMN := jA (show ∀ k, gm = k → s0 ≤ k ∧ k < s1 → False from fun k e hk => by have := HS1.out; omega)
 clear hb0 hb1 hx1 hx2 hx3 hO hW1 hgb hgl hgm HST
 go_wp2
 go_loopw [3, 6] (fun u3 u6 wr => ∃ i N : Nat, i ≤ 3 ∧ 140 * i ≤ N ∧ N ≤ 204 * i ∧ u3 = .int .i64 N ∧ u6 = .int .i64 i ∧ Aside0 (Ms s0 s1 [.slice A0 la.length c0, .slice A1 ls.length c1, .slice A2 lo.length c2] [.slice A3 of.length c3, .slice A4 on.length c4] hs (.slice A5 ms.length c5) W1 wr [la, ls, lo] [of, on] ms)) (fun _ u6 _ => 3 - (intOf u6).toNat)
 case atStart => exact ⟨0, 0, by omega, by omega, by omega, rfl, rfl, HM⟩
 case round =>
  clear HM
  obtain ⟨i, N, hi, hN0, hN1, rfl, rfl, HM⟩ := hrel
  by_cases hlt : i < 3
  ·have hlt' : (i : Int) < 3 := by omega
   have Za : ([la, ls, lo].getD i []).length ≤ 64 := by
    have h0 := HW.out.la; have h1 := HW.out.ls; have h2 := HW.out.lo
    simp only [] at h0 h1 h2
    match i, hlt with
    | 0, _ => simpa using h0
    | 1, _ => simpa using h1
    | 2, _ => simpa using h2
   obtain ⟨A, c, hv, hc⟩ := fam_get HM.out.str (i := i) (by simpa using hlt)
   have hcell : wr.cell? ⟨gl, i, none⟩ = some (.slice A ([la, ls, lo].getD i []).length c) := by
    rw [(HM.out.same.stays HX2.out (fun hk => GLN.out gl rfl hk)).cell i, ← hv]; simp
   obtain ⟨l, hl⟩ : ∃ l, l = [la, ls, lo].getD i [] := ⟨_, rfl⟩
   rw [← hl] at Za hv hc hcell
   have HLL := jA Za
   have HR0 := jA (HM.out.str.each i _ _ hv hc)
   have HV := jA hv
   have HC := jA hc
   have HG0 := jA (Gr.start HR0.out)
   have HSW := jA (Nat.le_trans HSB.out HM.out.same.size)
   clear hv hc Za hl
   go_wp2
   go_loopw [7, 8] (fun u7 u8 wr' => ∃ k : Nat, k ≤ 140 ∧ u8 = .int .i64 k ∧ Aside0 (Gr Kd.string 9 s0 wr (.slice A l.length c) l k wr' u7)) (fun _ u8 _ => 140 - (intOf u8).toNat)
   case atStart => exact ⟨0, by omega, rfl, HG0⟩
   case round =>
    obtain ⟨k, hk, rfl, HG⟩ := hrel
    by_cases hkm : k < 140
    ·have hkm' : (k : Int) < 140 := by omega
     obtain ⟨ys, hy, hR⟩ := HG.out.now
     have HR := jA hR
     have HY := jA hy
     have HLm := jA (show ((l ++ ys).length + 1) * 16 ≤ 140737488355328 by have := HLL.out; simp only [List.length_append]; omega)
     have HSQ := jA (Nat.le_trans HSW.out HG.out.grown.size)
     clear hR hy
     go_wp2_with (first | ((with_reducible refine gate_builtin (b := .append) (xs := #[.tmp 43, .tmp 44]) rfl ?_); at_builtin; refine R_append_two Kd.string s0 rfl (.tmp 43) (.tmp 44) 22 9 (.string ⟨#[]⟩) 16 rfl Try.underlying22 info9 rfl (by decide) _ (l ++ ys) (⟨#[43]⟩ : ByteArray) [.string (⟨#[43]⟩ : ByteArray)] (fun _ => True) (fun _ => False) rfl rfl rfl (fun _ h => h.elim) (fun _ _ => trivial) HR.out HSQ.out HLm.out ?_; intro v1 w1 hR1 hW1; have HG1 := jA (Gr.app HR0.out rfl HG.out HY.out hR1 hW1); clear hR1 hW1))
     go_roundw
     case rel => exact ⟨k + 1, by omega, by go_num, HG1⟩
     case measure => simp [intOf]; omega
    ·have hk2 : k = 140 := by omega
     subst hk2
     have hkm' : ¬ (((140 : Nat) : Int) < 140) := by omega
     obtain ⟨ys, hy, hR⟩ := HG.out.now
     obtain ⟨Aq, cq, rfl⟩ := Kd.R_slice hR
     have hlen : (l ++ ys).length = l.length + 140 := by rw [List.length_append, hy]
     rw [hlen] at HG ⊢
     clear hR hy hlen hkm
     have HM2 := jA (Ms.goneS HM.out HV.out HC.out HG.out)
     have hl6 := HLL.out
     clear HG HR0 HV HC HG0 HM
     go_wp2
     go_roundw
     case rel => exact ⟨i + 1, N + (l.length + 140), by omega, by omega, by omega, (by go_num), by go_num, HM2⟩
     case measure => simp [intOf]; omega
  ·have hi3 : i = 3 := by omega
   subst hi3
   have hlt' : ¬ (((3 : Nat) : Int) < 3) := by omega
   clear hlt hi
   go_wp2
   go_loopw [3, 9] (fun u3 u9 wr => ∃ i N : Nat, i ≤ 2 ∧ 1 ≤ N ∧ N ≤ 612 + 204 * i ∧ u3 = .int .i64 N ∧ u9 = .int .i64 i ∧ Aside0 (Ms s0 s1 [.slice A0 la.length c0, .slice A1 ls.length c1, .slice A2 lo.length c2] [.slice A3 of.length c3, .slice A4 on.length c4] hs (.slice A5 ms.length c5) W1 wr [la, ls, lo] [of, on] ms)) (fun _ u9 _ => 2 - (intOf u9).toNat)
   case atStart => exact ⟨0, _, by omega, by omega, by omega, rfl, rfl, HM⟩
   case round =>
    clear HM hN0 hN1
    obtain ⟨i, N, hi, hN0, hN1, rfl, rfl, HM⟩ := hrel
    by_cases hlt : i < 2
    ·have hlt' : (i : Int) < 2 := by omega
     have Za : ([of, on].getD i []).length ≤ 64 := by
      have h0 := HW.out.of; have h1 := HW.out.on
      simp only [] at h0 h1
      match i, hlt with
      | 0, _ => simpa using h0
      | 1, _ => simpa using h1
     obtain ⟨A, c, hv, hc⟩ := fam_get HM.out.num (i := i) (by simpa using hlt)
     have hcell : wr.cell? ⟨gm, i, none⟩ = some (.slice A ([of, on].getD i []).length c) := by
      rw [(HM.out.same.stays HX3.out (fun hk => GMN.out gm rfl hk)).cell i, ← hv]; simp
     obtain ⟨l, hl⟩ : ∃ l, l = [of, on].getD i [] := ⟨_, rfl⟩
     rw [← hl] at Za hv hc hcell
     have HLL := jA Za
     have HR0 := jA (HM.out.num.each i _ _ hv hc)
     have HV := jA hv
     have HC := jA hc
     have HG0 := jA (Gr.start HR0.out)
     have HSW := jA (Nat.le_trans HSB.out HM.out.same.size)
     clear hv hc Za hl
     go_wp2
     go_loopw [10, 11] (fun u10 u11 wr' => ∃ k : Nat, k ≤ 140 ∧ u11 = .int .i64 k ∧ Aside0 (Gr (Kd.int .i64) 3 s0 wr (.slice A l.length c) l k wr' u10)) (fun _ u11 _ => 140 - (intOf u11).toNat)
     case atStart => exact ⟨0, by omega, rfl, HG0⟩
     case round =>
      obtain ⟨k, hk, rfl, HG⟩ := hrel
      by_cases hkm : k < 140
      ·have hkm' : (k : Int) < 140 := by omega
       obtain ⟨ys, hy, hR⟩ := HG.out.now
       have HR := jA hR
       have HY := jA hy
       have HLm := jA (show ((l ++ ys).length + 1) * 8 ≤ 140737488355328 by have := HLL.out; simp only [List.length_append]; omega)
       have HSQ := jA (Nat.le_trans HSW.out HG.out.grown.size)
       clear hR hy
       go_wp2_with (first | ((with_reducible refine gate_builtin (b := .append) (xs := #[.tmp 64, .tmp 65]) rfl ?_); at_builtin; refine R_append_two (Kd.int .i64) s0 rfl (.tmp 64) (.tmp 65) 23 3 (.int .i64 0) 8 rfl Try.underlying23 info3 rfl (by decide) _ (l ++ ys) (-20 : Int) [.int .i64 (-20)] (fun _ => True) (fun _ => False) rfl rfl rfl (fun _ h => h.elim) (fun _ _ => trivial) HR.out HSQ.out HLm.out ?_; intro v1 w1 hR1 hW1; have HG1 := jA (Gr.app HR0.out rfl HG.out HY.out hR1 hW1); clear hR1 hW1))
       go_roundw
       case rel => exact ⟨k + 1, by omega, by go_num, HG1⟩
       case measure => simp [intOf]; omega
      ·have hk2 : k = 140 := by omega
       subst hk2
       have hkm' : ¬ (((140 : Nat) : Int) < 140) := by omega
       obtain ⟨ys, hy, hR⟩ := HG.out.now
       obtain ⟨Aq, cq, rfl⟩ := Kd.R_slice hR
       have hlen : (l ++ ys).length = l.length + 140 := by rw [List.length_append, hy]
       rw [hlen] at HG ⊢
       clear hR hy hlen hkm
       have HM2 := jA (Ms.goneI HM.out HV.out HC.out HG.out)
       have hl6 := HLL.out
       clear HG HR0 HV HC HG0 HM
       go_wp2
       go_roundw
       case rel => exact ⟨i + 1, N + (l.length + 140), by omega, by omega, by omega, (by go_num), by go_num, HM2⟩
       case measure => simp [intOf]; omega
    ·have hi3 : i = 2 := by omega
     subst hi3
     have hlt' : ¬ (((2 : Nat) : Int) < 2) := by omega
     clear hlt hi
     have hl5 := HW.out.ms
     simp only [] at hl5
     go_wp2
     go_loopw [3, 12] (fun u3 u12 wr => ∃ i N : Nat, i ≤ ms.length ∧ 1 ≤ N ∧ N ≤ 1020 + 204 * i ∧ u3 = .int .i64 N ∧ u12 = .int .i64 i ∧ Aside0 (Ms s0 s1 [.slice A0 la.length c0, .slice A1 ls.length c1, .slice A2 lo.length c2] [.slice A3 of.length c3, .slice A4 on.length c4] hs (.slice A5 ms.length c5) W1 wr [la, ls, lo] [of, on] ms)) (fun _ u12 _ => ms.length - (intOf u12).toNat)
     case atStart => exact ⟨0, _, by omega, by omega, by omega, rfl, rfl, HM⟩
     case round =>
      clear HM hN0 hN1
      obtain ⟨i, N, hi, hN0, hN1, rfl, rfl, HM⟩ := hrel
      have x5 := (HM.out.same.stays HX1.out (fun hk => GBN.out gb rfl hk)).cell 5
      simp only [Jt, Ju, Jv] at x5
      by_cases hlt : i < ms.length
      ·have hlt' : (i : Int) < ms.length := by omega
       have Za : (ms.getD i []).length ≤ 64 := HW.out.each i
       obtain ⟨g5, e5⟩ := raw_form HO.out.r5 (by rw [List.length_map, HHL.out]; omega)
       simp only [] at e5
       subst e5
       obtain ⟨A, c, hv, hc⟩ := fam_get HM.out.row (i := i) (by rw [HHL.out]; exact hlt)
       have hcell : wr.cell? ⟨g5, i, none⟩ = some (.slice A (ms.getD i []).length c) := raw_at HM.out.raw hv
       obtain ⟨l, hl⟩ : ∃ l, l = ms.getD i [] := ⟨_, rfl⟩
       rw [← hl] at Za hv hc hcell
       have HLL := jA Za
       have HR0 := jA (HM.out.row.each i _ _ hv hc)
       have HV := jA hv
       have HC := jA hc
       have HG0 := jA (Gr.start HR0.out)
       have HSW := jA (Nat.le_trans HSB.out HM.out.same.size)
       clear hv hc Za hl
       go_wp2
       go_loopw [13, 14] (fun u13 u14 wr' => ∃ k : Nat, k ≤ 140 ∧ u14 = .int .i64 k ∧ Aside0 (Gr (Kd.int .u16) 31 s0 wr (.slice A l.length c) l k wr' u13)) (fun _ u14 _ => 140 - (intOf u14).toNat)
       case atStart => exact ⟨0, by omega, rfl, HG0⟩
       case round =>
        obtain ⟨k, hk, rfl, HG⟩ := hrel
        by_cases hkm : k < 140
        ·have hkm' : (k : Int) < 140 := by omega
         obtain ⟨ys, hy, hR⟩ := HG.out.now
         have HR := jA hR
         have HY := jA hy
         have HLm := jA (show ((l ++ ys).length + 1) * 2 ≤ 140737488355328 by have := HLL.out; simp only [List.length_append]; omega)
         have HSQ := jA (Nat.le_trans HSW.out HG.out.grown.size)
         clear hR hy
         go_wp2_with (first | ((with_reducible refine gate_builtin (b := .append) (xs := #[.tmp 87, .tmp 88]) rfl ?_); at_builtin; refine R_append_two (Kd.int .u16) s0 rfl (.tmp 87) (.tmp 88) 32 31 (.int .u16 0) 2 rfl Try.underlying32 info31 rfl (by decide) _ (l ++ ys) (60000 : Int) [.int .u16 60000] (fun _ => True) (fun _ => False) rfl rfl rfl (fun _ h => h.elim) (fun _ _ => trivial) HR.out HSQ.out HLm.out ?_; intro v1 w1 hR1 hW1; have HG1 := jA (Gr.app HR0.out rfl HG.out HY.out hR1 hW1); clear hR1 hW1))
         go_roundw
         case rel => exact ⟨k + 1, by omega, by go_num, HG1⟩
         case measure => simp [intOf]; omega
        ·have hk2 : k = 140 := by omega
         subst hk2
         have hkm' : ¬ (((140 : Nat) : Int) < 140) := by omega
         obtain ⟨ys, hy, hR⟩ := HG.out.now
         obtain ⟨Aq, cq, rfl⟩ := Kd.R_slice hR
         have hlen : (l ++ ys).length = l.length + 140 := by rw [List.length_append, hy]
         rw [hlen] at HG ⊢
         clear hR hy hlen hkm
         have HM2 := jA (Ms.goneM HM.out HV.out HC.out HG.out)
         have hl6 := HLL.out
         clear HG HR0 HV HC HG0 HM
         go_wp2
         go_roundw
         case rel => exact ⟨i + 1, N + (l.length + 140), by omega, by omega, by omega, (by go_num), by go_num, HM2⟩
         case measure => simp [intOf]; omega
      ·have hi3 : i = ms.length := by omega
       subst hi3
       have hlt' : ¬ ((ms.length : Int) < ms.length) := by omega
       clear hlt hi
       have HLL := jA (show (hs.map hd1).length ≤ 64 by rw [List.length_map, HHL.out]; exact hl5)
       have HR0 := jA HM.out.raw
       have HG0 := jA (Gr.start HR0.out)
       have HSW := jA (Nat.le_trans HSB.out HM.out.same.size)
       go_wp2
       go_loopw [15, 16] (fun u15 u16 wr' => ∃ k : Nat, k ≤ 70 ∧ u16 = .int .i64 k ∧ Aside0 (Gr (Kd.raw 1) 32 s0 wr (.slice A5 ms.length c5) (hs.map hd1) k wr' u15)) (fun _ u16 _ => 70 - (intOf u16).toNat)
       case atStart => exact ⟨0, by omega, rfl, HG0⟩
       case round =>
        obtain ⟨k, hk, rfl, HG⟩ := hrel
        by_cases hkm : k < 70
        ·have hkm' : (k : Int) < 70 := by omega
         obtain ⟨ys, hy, hR⟩ := HG.out.now
         have HR := jA hR
         have HY := jA hy
         have HLm := jA (show (((hs.map hd1) ++ ys).length + 1) * 24 ≤ 140737488355328 by have := HLL.out; simp only [List.length_append]; omega)
         have HSQ := jA (Nat.le_trans HSW.out HG.out.grown.size)
         clear hR hy
         go_wp2_with (first | ((with_reducible refine gate_builtin (b := .append) (xs := #[.tmp 100, .tmp 102]) rfl ?_); at_builtin; refine R_append_two (Kd.raw 1) s0 rfl (.tmp 100) (.tmp 102) 24 32 (.slice none 0 0) 24 rfl Try.underlying24 infoR rfl (by decide) _ ((hs.map hd1) ++ ys) [.slice (some ⟨(World.heap wr).size, 0, none⟩) 1 1] [.slice (some ⟨(World.heap wr).size, 0, none⟩) 1 1] (fun _ => True) (fun _ => False) rfl (by rw [World.size_alloc]; rfl) ⟨rfl, rfl, by simp [Value.oneCell']⟩ (fun _ h => h.elim) (fun _ _ => trivial) (Kd.R_below HR.out (below_alloc (Below.refl _ _) _)) (by simpa using Nat.le_succ_of_le HSQ.out) HLm.out ?_; intro v1 w1 hR1 hW1; have HG1 := jA (Gr.app HR0.out rfl (Gr.move HG.out (below_alloc (Below.refl _ _) _)) HY.out hR1 hW1); clear hR1 hW1))
         exact ⟨⟨k + 1, by omega, by go_num, HG1⟩, by simp [intOf]; omega⟩
        ·have hk2 : k = 70 := by omega
         subst hk2
         have hkm' : ¬ (((70 : Nat) : Int) < 70) := by omega
         obtain ⟨ys, hy, hR⟩ := HG.out.now
         obtain ⟨Aq, cq, rfl⟩ := Kd.R_slice hR
         have hlen : ((hs.map hd1) ++ ys).length = (hs.map hd1).length + 70 := by rw [List.length_append, hy]
         rw [hlen] at HG ⊢
         clear hR hy hlen hkm
         have HM2 := jA (Ms.goneR HM.out HG.out)
         have hl6 := HLL.out
         rw [List.length_map, HHL.out] at hl6
         have hl7 : (hs.map hd1).length = ms.length := by rw [List.length_map, HHL.out]
         rw [hl7]
         clear HG HR0 HG0 HM hl7
         go_wp2
         go_ret
         exact ⟨⟨N + (ms.length + 70), by go_num, by omega, by omega⟩, ⟨HM2.out.str.each 0 _ _ rfl rfl, HM2.out.str.each 1 _ _ rfl rfl, HM2.out.str.each 2 _ _ rfl rfl, HM2.out.num.each 0 _ _ rfl rfl, HM2.out.num.each 1 _ _ rfl rfl, HM2.out.raw, rows_fam HM2.out.row, H.out.lt, H.out.a01, H.out.a02, H.out.a12, H.out.a34⟩, same_from HB0.out HM2.out.same⟩
end Go.Proofs.Ythaiodklfoegiaa.OGrow
/- Many rows of one's own, held together. -/
namespace Go.Proofs.Ythaiodklfoegiaa.QRoomB
open Go.RowKit YthaiodklfoegiaaW.PrintWords YthaiodklfoegiaaW.PrintLast YthaiodklfoegiaaW.PrintMore Go.Maps
open PG YthaiodklfoegiaaF BRow MPut CSame GDiffer MSide MPol OBase OGr
theorem info54 : (Try.prog.info? 54).map (fun i => (i.zero, i.size, i.bytes)) = some (some (.agg #[(.string ⟨#[]⟩), (.float .f64 0)]), 2, 24) := by kernel_rfl
def Only (t : Nat) (W W1 : World) : Prop := ∀ (k : Nat) (cells : Array Value) (t' : Nat), W.heap[k]? = some (Obj.cells cells t' (0, 0)) → t' ≠ t → W1.heap[k]? = W.heap[k]?
theorem Only.set {t g j : Nat} {W : World} {cs : Array Value} (h : Stays W g cs t) (v : Value) : Only t W (W.setCell ⟨g, j, none⟩ v) := fun k cells t' hk hne => heap_setCell_other W ⟨g, j, none⟩ k v (fun e => by
 have hk' : W.heap[g]? = some (.cells cells t' (0, 0)) := by have e : k = g := e; rw [← e]; exact hk
 rw [show W.heap[g]? = some (.cells cs t (0, 0)) from h] at hk'
 injection hk' with h1
 injection h1 with _ h2 _
 exact hne h2.symm)
theorem Only.sets {t g : Nat} {W : World} {cs : Array Value} (h : Stays W g cs t) (l : List Value) : Only t W (W.setCells g 0 l) := fun k cells t' hk hne => setCells_far l 0 k (fun e => by
 subst e
 rw [show W.heap[k]? = some (.cells cs t (0, 0)) from h] at hk
 injection hk with h1
 injection h1 with _ h2 _
 exact hne h2.symm)
theorem Only.grown {t : Nat} {W W1 : World} {row : Option Nat} (hg : W.grownBy W1 row) (ht : ∀ k, row = some k → ∃ cells, W.heap[k]? = some (.cells cells t (0, 0))) : Only t W W1 := fun k cells t' hk hne => hg.block k (Array.getElem?_eq_some_iff.1 hk).1 (fun e => by
 obtain ⟨c', hc⟩ := ht k e.symm
 rw [hc] at hk
 injection hk with h1
 injection h1 with _ h2 _
 exact hne h2.symm)
structure Ent where
 T : List Nat
 P : World → Prop
 only : ∀ t W W1, P W → t ∉ T → Only t W W1 → P W1
 below : ∀ W W1, P W → Below W.heap.size W W1 → P W1
def entO {α : Type} (d : Kd α) (e base : Nat) (ok : Nat → Prop) (v : Value) (xs : List α) : Ent where
 T := e :: d.E
 P := fun W => d.R e W base ok v xs
 only := fun t W W1 h ht ho => Kd.R_mono (Kd.R_step (Kd.R_bound h) (fun k hk _ => by
  obtain ⟨_, _, _, q, hq, cells, hc⟩ := hk
  exact ho k cells q hc (fun e => ht (e ▸ hq)))) (fun _ hk => hk.1)
 below := fun W W1 h hb => Kd.R_below h hb
abbrev ent {α : Type} (d : Kd α) (e base : Nat) (v : Value) (xs : List α) : Ent := entO d e base (fun _ => True) v xs
abbrev TR := S78 × Option Addr × Nat
abbrev sh : ByteArray := ⟨#[35]⟩
def lcell (x : TR) : List Value := [.slice x.2.1 (x.1.f3.length + 1) x.2.2]
def rcell (x : TR) : List Value := [.bool x.1.f0, .string x.1.f1, .string x.1.f2, .slice x.2.1 x.1.f3.length x.2.2, .int .i8 x.1.f4, .float .f64 x.1.f5]
def entEach (base : Nat) (T : List TR) : Ent where
 T := [9]
 P := fun W => ∀ x ∈ T, Kd.R Kd.string 9 W base (fun _ => True) (.slice x.2.1 (x.1.f3.length + 1) x.2.2) (x.1.f3 ++ [sh])
 only := fun t W W1 h ht ho x hx => (ent Kd.string 9 base (.slice x.2.1 (x.1.f3.length + 1) x.2.2) (x.1.f3 ++ [sh])).only t W W1 (h x hx) ht ho
 below := fun _ _ h hb x hx => Kd.R_below (h x hx) hb
theorem R_only {α : Type} {d : Kd α} {e base t : Nat} {ok : Nat → Prop} {v : Value} {xs : List α} {W W1 : World} (h : d.R e W base ok v xs) (ho : Only t W W1) (ht : (e :: d.E).contains t = false) : d.R e W1 base ok v xs :=
 (entO d e base ok v xs).only t W W1 h (fun hm => by
  have := List.contains_iff_mem.2 hm
  rw [show (entO d e base ok v xs).T = e :: d.E from rfl, ht] at this
  cases this) ho
def All (L : List Ent) (W : World) : Prop := ∀ E, E ∈ L → E.P W
theorem All.nil (W : World) : All [] W := fun _ h => by simp at h
theorem All.cons {L : List Ent} {E : Ent} {W : World} (h : E.P W) (hl : All L W) : All (E :: L) W := fun F hF => by
 rcases List.mem_cons.1 hF with rfl | h2
 ·exact h
 ·exact hl F h2
theorem All.only {L : List Ent} {t : Nat} {W W1 : World} (h : All L W) (ho : Only t W W1) (ht : L.all (fun E => !(E.T.contains t)) = true) : All L W1 := fun E hE => E.only t W W1 (h E hE) (by
 have := List.all_eq_true.1 ht E hE
 simpa using this) ho
theorem All.below {L : List Ent} {W W1 : World} (h : All L W) (hb : Below W.heap.size W W1) : All L W1 := fun E hE => E.below W W1 (h E hE) hb
theorem All.drop {L : List Ent} {E : Ent} {W : World} (h : All (E :: L) W) : All L W := fun F hF => h F (List.mem_cons_of_mem _ hF)
theorem All.get {L : List Ent} {W : World} (h : All L W) (i : Nat) {E : Ent} (hi : L[i]? = some E) : E.P W := h E (List.mem_of_getElem? hi)
structure Rm (w : World) (g1 gv g3 : Nat) (pc rc cs : Array Value) (L : List Ent) (W : World) : Prop where
 box : Stays W g1 pc 39
 res : Stays W gv rc 43
 f : Stays W g3 cs 39
 all : All L W
 below : Below w.heap.size w W
 n1 : g1 ≠ g3
 n3 : w.heap.size ≤ g3
section
variable {w W W1 : World} {g1 gv g3 : Nat} {pc rc cs : Array Value} {L : List Ent} {E : Ent}
theorem Rm.move (h : Rm w g1 gv g3 pc rc cs L W) (hb : Below W.heap.size W W1) : Rm w g1 gv g3 pc rc cs L W1 :=
 ⟨h.box.below hb, h.res.below hb, h.f.below hb, h.all.below hb, below_then h.below h.below.size hb, h.n1, h.n3⟩
theorem Rm.add (h : Rm w g1 gv g3 pc rc cs L W) (hE : E.P W) : Rm w g1 gv g3 pc rc cs (E :: L) W := ⟨h.box, h.res, h.f, All.cons hE h.all, h.below, h.n1, h.n3⟩
theorem Rm.drop (h : Rm w g1 gv g3 pc rc cs (E :: L) W) : Rm w g1 gv g3 pc rc cs L W := ⟨h.box, h.res, h.f, h.all.drop, h.below, h.n1, h.n3⟩
theorem Rm.set (h : Rm w g1 gv g3 pc rc cs L W) (j : Nat) (v : Value) (hn : gv ≠ g3) (ht : L.all (fun E => !(E.T.contains 39)) = true) : Rm w g1 gv g3 pc rc (cs.setIfInBounds j v) L (W.setCell ⟨g3, j, none⟩ v) :=
 ⟨stays_far h.box h.n1 v, stays_far h.res hn v, stays_set h.f j v, h.all.only (Only.set h.f v) ht, below_set h.below h.n3, h.n1, h.n3⟩
theorem Rm.var (h : Rm w g1 gv g3 pc rc cs L W) {g6 t j : Nat} {c6 : Array Value} (hs : Stays W g6 c6 t) (v : Value) (m1 : g1 ≠ g6) (mv : gv ≠ g6) (m3 : g3 ≠ g6) (hge : w.heap.size ≤ g6) (ht : L.all (fun E => !(E.T.contains t)) = true) : Rm w g1 gv g3 pc rc cs L (W.setCell ⟨g6, j, none⟩ v) :=
 ⟨stays_far h.box m1 v, stays_far h.res mv v, stays_far h.f m3 v, h.all.only (Only.set hs v) ht, below_set h.below hge, h.n1, h.n3⟩
theorem Rm.sets (h : Rm w g1 gv g3 pc rc cs L W) {g6 t : Nat} {c6 : Array Value} (hs : Stays W g6 c6 t) (l : List Value) (m1 : g1 ≠ g6) (mv : gv ≠ g6) (m3 : g3 ≠ g6) (hge : w.heap.size ≤ g6) (ht : L.all (fun E => !(E.T.contains t)) = true) : Rm w g1 gv g3 pc rc cs L (W.setCells g6 0 l) :=
 ⟨setCells_stays h.box m1 l, setCells_stays h.res mv l, setCells_stays h.f m3 l, h.all.only (Only.sets hs l) ht, setCells_below h.below hge l, h.n1, h.n3⟩
theorem Rm.app (h : Rm w g1 gv g3 pc rc cs L W) {t : Nat} {v : Value} (hg : W.grownBy W1 v.ownBlock) (hv : ∀ k, v.ownBlock = some k → ∃ cells, W.heap[k]? = some (.cells cells t (0, 0))) (hb : ∀ k, v.ownBlock = some k → w.heap.size ≤ k) (h28 : t ≠ 39) (h33 : t ≠ 43) (ht : L.all (fun E => !(E.T.contains t)) = true) : Rm w g1 gv g3 pc rc cs L W1 := by
 have ho := Only.grown hg hv
 refine ⟨(ho _ _ _ h.box (fun e => h28 e.symm)).trans h.box, (ho _ _ _ h.res (fun e => h33 e.symm)).trans h.res, (ho _ _ _ h.f (fun e => h28 e.symm)).trans h.f, h.all.only ho ht, ?_, h.n1, h.n3⟩
 exact ⟨hg.os.trans h.below.os, hg.tape.trans h.below.tape, hg.output.trans h.below.output, Nat.le_trans h.below.size hg.size, fun k hk => (hg.block k (Nat.lt_of_lt_of_le hk h.below.size) (fun e => by have := hb k e.symm; omega)).trans (h.below.block k hk)⟩
end
theorem C_of_raw {α : Type} {d : Kd α} {w : World} {A : Option Addr} {n : Nat} {rows : List (List Value)} {xs : List α} (h : Kd.C (Kd.raw d.sz) w A n rows) (hl : rows.length = xs.length) (hK : ∀ (j : Nat) (x : α) (c : List Value), xs[j]? = some x → rows[j]? = some c → d.K w x c) : Kd.C d w A n xs := by
 obtain ⟨h1, h2, h3⟩ := h
 refine ⟨by rw [← hl]; exact h1, h2, fun hp => ?_⟩
 obtain ⟨ad, e, hh⟩ := h3 hp
 refine ⟨ad, e, fun j p hj => ?_⟩
 have hj' : j < rows.length := by rw [hl]; exact (List.getElem?_eq_some_iff.1 hj).1
 obtain ⟨c, hcl, hc, hcc⟩ := hh j rows[j] (List.getElem?_eq_getElem hj')
 exact ⟨c, hcl, hK j p c hj (by rw [List.getElem?_eq_getElem hj']; exact congrArg some hc.1.symm), hcc⟩
theorem Only.stays {t t' g : Nat} {W W1 : World} {cs : Array Value} (ho : Only t W W1) (h : Stays W g cs t') (hn : t' ≠ t) : Stays W1 g cs t' := (ho _ _ _ h hn).trans h
end Go.Proofs.Ythaiodklfoegiaa.QRoomB
namespace Go.Proofs.Ythaiodklfoegiaa.PG
open YthaiodklfoegiaaF
attribute [local go_sem high] run_feq run_fne run_flt_lt run_flt_le run_flt_gt run_flt_ge
open Go.RowKit YthaiodklfoegiaaW.PrintWords YthaiodklfoegiaaW.PrintLast YthaiodklfoegiaaW.PrintMore
attribute [local go_sem] max2_int min2_int max_two min_two max_three min_three max_four min_four
def gatehouselaw11_longer.f (l0 : List ByteArray) : Option (List ByteArray) := if ([] : List ByteArray).length + l0.length < 8796093022208 then ((some (([] : List ByteArray) ++ l0 : List ByteArray)).bind fun Za => (if Za.length < 8796093022208 then (some (Za ++ [(⟨#[35]⟩ : ByteArray)])) else (none))) else (none)
theorem gatehouselaw11_longer.calls (A0 : Option Addr) (c0 : Nat) (l0 : List ByteArray) (r : List ByteArray) (w : World) (hr0 : Kd.C Kd.string w A0 l0.length l0) (hc0 : l0.length ≤ c0) (h : gatehouselaw11_longer.f l0 = some r) :
  Calls Try.prog 45 #[.slice A0 l0.length c0] w fun e w' => ∃ v0_ : Value, e = .returned (v0_) ∧ Kd.R Kd.string 9 w' w.heap.size (fun _ => True) v0_ r ∧ Below w.heap.size w w' := by
 have HR0 := jA hr0
 have HC0 := jA hc0
 clear hr0 hc0
 have HB := jA (Below.refl w.heap.size w)
 have H : (if ([] : List ByteArray).length + l0.length < 8796093022208 then ((some (([] : List ByteArray) ++ l0 : List ByteArray)).bind fun Za => (if Za.length < 8796093022208 then (some (Za ++ [(⟨#[35]⟩ : ByteArray)])) else (none))) else (none)) = some r := h
 clear h
 by_cases c2 : ([] : List ByteArray).length + l0.length < 8796093022208
 ·rw [if_pos c2] at H
  have Zh := jA c2
  clear c2
  obtain ⟨Za, Zb⟩ : ∃ y_ : List ByteArray, y_ = (([] : List ByteArray) ++ l0) := ⟨_, rfl⟩
  replace H : (if Za.length < 8796093022208 then (some (Za ++ [(⟨#[35]⟩ : ByteArray)])) else (none)) = some r := by first | (rw [Zb]; with_reducible exact H) | (have H2_ := (Option.bind_some _ _).symm.trans H; rw [Zb]; with_reducible exact H2_) | (have H2_ := (Option.bind_some _ _).symm.trans H; with_reducible exact H2_) | with_reducible exact H | (rw [Zb]; exact H) | exact H
  have Ze := jA Zb
  clear Zb
  by_cases c3 : Za.length < 8796093022208
  ·rw [if_pos c3] at H
   have Zi := jA c3
   clear c3
   obtain ⟨Zj, Zc⟩ : ∃ y_ : List ByteArray, y_ = (Za ++ [(⟨#[35]⟩ : ByteArray)]) := ⟨_, rfl⟩
   replace H : (some Zj) = some r := by first | (rw [Zc]; with_reducible exact H) | (have H2_ := (Option.bind_some _ _).symm.trans H; rw [Zc]; with_reducible exact H2_) | (have H2_ := (Option.bind_some _ _).symm.trans H; with_reducible exact H2_) | with_reducible exact H | (rw [Zc]; exact H) | exact H
   have Zf := jA Zc
   clear Zc
   obtain rfl := Option.some.inj H
   go_enter Try.func45, Try.ntmps45
   go_wp2_with (first | ((with_reducible refine gate_builtin (b := .append) (xs := #[.tmp 4, .tmp 5]) rfl ?_); at_builtin; refine Kd.R_append_rows Kd.string (w0 := w) w.heap.size rfl (.tmp 4) (.tmp 5) 22 9 (.string ⟨#[]⟩) 16 rfl Try.underlying22 info9 rfl (by decide) (by omega) (.slice none 0 0) ([] : List ByteArray) l0 _ _ _ (fun _ => True) (fun _ => False) rfl rfl ?aO ?aR (fun _ _ h => h) (fun _ h => h.elim) ?aF ?aB ?aS ?aL ?_; (case aR => repeat (first | exact HR0.out | (with_reducible refine Kd.C_alloc ?_ _) | (with_reducible refine Kd.C_drewN ?_ _) | (with_reducible refine Kd.C_drew ?_))); (case aB => exact (by repeat (first | (with_reducible first | exact HB.out | apply below_alloc | apply pw_below_drewN | apply below_drew1) | exact HB.out))); (case aF => exact (fun _ _ => trivial)); (case aO => exact ((Kd.R_nil _ _ _ _ (fun _ => True)))); (case aS => exact (below_size (by repeat (first | (with_reducible first | exact HB.out | apply below_alloc | apply pw_below_drewN | apply below_drew1) | exact HB.out)))); (case aL => have := Zh.out; omega); intro Zk w4 ho hb hg hat; rw [← Ze.out] at ho; have n0_ := jA (hb); have n1_ := jA (ho); clear HB; have HB := n0_; have Zd := n1_; clear n0_ n1_; clear ho hb hg hat) | ((with_reducible refine gate_builtin (b := .append) (xs := #[.tmp 7, .tmp 8]) rfl ?_); at_builtin; refine Kd.R_append Kd.string (w0 := w) w.heap.size rfl (.tmp 7) (.tmp 8) 22 9 (.string ⟨#[]⟩) 16 rfl Try.underlying22 info9 rfl (by decide) (by omega) Zk Za (⟨#[35]⟩ : ByteArray) [.string (⟨#[35]⟩ : ByteArray)] (fun _ => True) (fun _ => False) rfl rfl ?aP (fun _ hk => hk.elim) ?aF ?aO ?aB ?aS ?aL ?_; (case aP => exact rfl); (case aB => exact (by repeat (first | (with_reducible first | exact HB.out | apply below_alloc | apply pw_below_drewN | apply below_drew1) | exact HB.out))); (case aF => exact (fun _ _ => trivial)); (case aO => exact (by (with_reducible repeat (first | apply Kd.R_alloc | apply Kd.R_drewN | apply Kd.R_drew)); exact Zd.out)); (case aS => exact (below_size (by repeat (first | (with_reducible first | exact HB.out | apply below_alloc | apply pw_below_drewN | apply below_drew1) | exact HB.out)))); (case aL => have := Zi.out; omega); intro Zl w5 ho hb hg hat; rw [← Zf.out] at ho; have n0_ := jA (hb); have n1_ := jA (ho); clear HB; clear Zd; have HB := n0_; have Zg := n1_; clear n0_ n1_; clear ho hb hg hat))
   go_ret
   exact ⟨_, by first | rfl | (simp [errW_none, errW_some] <;> rfl) | (simp [*, errW_none, errW_some] <;> rfl), by (with_reducible repeat (first | apply Kd.R_alloc | apply Kd.R_drewN | apply Kd.R_drew)); exact Zg.out, by repeat (first | (with_reducible first | exact HB.out | apply below_alloc | apply pw_below_drewN | apply below_drew1) | exact HB.out)⟩
  ·rw [if_neg c3] at H
   exact absurd H (by simp)
 ·rw [if_neg c2] at H
  exact absurd H (by simp)
end Go.Proofs.Ythaiodklfoegiaa.PG
namespace Go.Proofs.Ythaiodklfoegiaa.PG
open YthaiodklfoegiaaF
attribute [local go_sem high] run_feq run_fne run_flt_lt run_flt_le run_flt_gt run_flt_ge
open Go.RowKit YthaiodklfoegiaaW.PrintWords YthaiodklfoegiaaW.PrintLast YthaiodklfoegiaaW.PrintMore
attribute [local go_sem] max2_int min2_int max_two min_two max_three min_three max_four min_four
def gatehouselaw11_pairs.f (l0 : List (S108)) : Option ((List (S108))) := if ([] : List (S108)).length + l0.length < 4398046511104 then ((some (([] : List (S108)) ++ l0 : List (S108))).bind fun Za => (if Za.length < 4398046511104 then (some (Za ++ [(⟨(⟨#[35]⟩ : ByteArray), (⟨#[]⟩ : ByteArray)⟩ : S108)])) else (none))) else (none)
theorem gatehouselaw11_pairs.calls (A0 : Option Addr) (c0 : Nat) (l0 : List (S108)) (r : List (S108)) (w : World) (hr0 : Kd.C k108 w A0 l0.length l0) (hc0 : l0.length ≤ c0) (h : gatehouselaw11_pairs.f l0 = some r) :
  Calls Try.prog 46 #[.slice A0 l0.length c0] w fun e w' => ∃ v0_ : Value, e = .returned (v0_) ∧ Kd.R k108 108 w' w.heap.size (fun _ => True) v0_ r ∧ Below w.heap.size w w' := by
 have Zl := Try.underlying108
 have HR0 := jA hr0
 have HC0 := jA hc0
 clear hr0 hc0
 have HB := jA (Below.refl w.heap.size w)
 have H : (if ([] : List (S108)).length + l0.length < 4398046511104 then ((some (([] : List (S108)) ++ l0 : List (S108))).bind fun Za => (if Za.length < 4398046511104 then (some (Za ++ [(⟨(⟨#[35]⟩ : ByteArray), (⟨#[]⟩ : ByteArray)⟩ : S108)])) else (none))) else (none)) = some r := h
 clear h
 by_cases c2 : ([] : List (S108)).length + l0.length < 4398046511104
 ·rw [if_pos c2] at H
  have Zh := jA c2
  clear c2
  obtain ⟨Za, Zb⟩ : ∃ y_ : List (S108), y_ = (([] : List (S108)) ++ l0) := ⟨_, rfl⟩
  replace H : (if Za.length < 4398046511104 then (some (Za ++ [(⟨(⟨#[35]⟩ : ByteArray), (⟨#[]⟩ : ByteArray)⟩ : S108)])) else (none)) = some r := by first | (rw [Zb]; with_reducible exact H) | (have H2_ := (Option.bind_some _ _).symm.trans H; rw [Zb]; with_reducible exact H2_) | (have H2_ := (Option.bind_some _ _).symm.trans H; with_reducible exact H2_) | with_reducible exact H | (rw [Zb]; exact H) | exact H
  have Ze := jA Zb
  clear Zb
  by_cases c3 : Za.length < 4398046511104
  ·rw [if_pos c3] at H
   have Zi := jA c3
   clear c3
   obtain ⟨Zj, Zc⟩ : ∃ y_ : List (S108), y_ = (Za ++ [(⟨(⟨#[35]⟩ : ByteArray), (⟨#[]⟩ : ByteArray)⟩ : S108)]) := ⟨_, rfl⟩
   replace H : (some Zj) = some r := by first | (rw [Zc]; with_reducible exact H) | (have H2_ := (Option.bind_some _ _).symm.trans H; rw [Zc]; with_reducible exact H2_) | (have H2_ := (Option.bind_some _ _).symm.trans H; with_reducible exact H2_) | with_reducible exact H | (rw [Zc]; exact H) | exact H
   have Zf := jA Zc
   clear Zc
   obtain rfl := Option.some.inj H
   go_enter Try.func46, Try.ntmps46
   go_wp2_with (first | ((with_reducible refine gate_builtin (b := .append) (xs := #[.tmp 4, .tmp 5]) rfl ?_); at_builtin; refine Kd.R_append_rows k108 (w0 := w) w.heap.size rfl (.tmp 4) (.tmp 5) 35 108 (.agg #[(.string ⟨#[]⟩), (.string ⟨#[]⟩)]) 32 rfl Try.underlying35 info108 rfl (by decide) (by omega) (.slice none 0 0) ([] : List (S108)) l0 _ _ _ (fun _ => True) (fun _ => False) rfl rfl ?aO ?aR (fun _ _ h => h) (fun _ h => h.elim) ?aF ?aB ?aS ?aL ?_; (case aR => repeat (first | exact HR0.out | (with_reducible refine Kd.C_alloc ?_ _) | (with_reducible refine Kd.C_drewN ?_ _) | (with_reducible refine Kd.C_drew ?_))); (case aB => exact (by repeat (first | (with_reducible first | exact HB.out | apply below_alloc | apply pw_below_drewN | apply below_drew1) | exact HB.out))); (case aF => exact (fun _ _ => trivial)); (case aO => exact ((Kd.R_nil _ _ _ _ (fun _ => True)))); (case aS => exact (below_size (by repeat (first | (with_reducible first | exact HB.out | apply below_alloc | apply pw_below_drewN | apply below_drew1) | exact HB.out)))); (case aL => have := Zh.out; omega); intro Zk w4 ho hb hg hat; rw [← Ze.out] at ho; have n0_ := jA (hb); have n1_ := jA (ho); clear HB; have HB := n0_; have Zd := n1_; clear n0_ n1_; clear ho hb hg hat) | ((with_reducible refine gate_builtin (b := .append) (xs := #[.tmp 7, .tmp 9]) rfl ?_); at_builtin; refine Kd.R_append k108 (w0 := w) w.heap.size rfl (.tmp 7) (.tmp 9) 35 108 (.agg #[(.string ⟨#[]⟩), (.string ⟨#[]⟩)]) 32 rfl Try.underlying35 info108 rfl (by decide) (by omega) Zk Za (⟨(⟨#[35]⟩ : ByteArray), (⟨#[]⟩ : ByteArray)⟩ : S108) [.string (⟨#[35]⟩ : ByteArray), .string (⟨#[]⟩ : ByteArray)] (fun _ => True) (fun _ => False) rfl rfl ?aP (fun _ hk => hk.elim) ?aF ?aO ?aB ?aS ?aL ?_; (case aP => exact k108_mkM _ _ _ (⟨(⟨#[35]⟩ : ByteArray), (⟨#[]⟩ : ByteArray)⟩ : S108)); (case aB => exact (by repeat (first | (with_reducible first | exact HB.out | apply below_alloc | apply pw_below_drewN | apply below_drew1) | exact HB.out))); (case aF => exact (fun _ _ => trivial)); (case aO => exact (by (with_reducible repeat (first | apply Kd.R_alloc | apply Kd.R_drewN | apply Kd.R_drew)); exact Zd.out)); (case aS => exact (below_size (by repeat (first | (with_reducible first | exact HB.out | apply below_alloc | apply pw_below_drewN | apply below_drew1) | exact HB.out)))); (case aL => have := Zi.out; omega); intro Zm w5 ho hb hg hat; rw [← Zf.out] at ho; have n0_ := jA (hb); have n1_ := jA (ho); clear HB; clear Zd; have HB := n0_; have Zg := n1_; clear n0_ n1_; clear ho hb hg hat))
   go_ret
   exact ⟨_, by first | rfl | (simp [errW_none, errW_some] <;> rfl) | (simp [*, errW_none, errW_some] <;> rfl), by (with_reducible repeat (first | apply Kd.R_alloc | apply Kd.R_drewN | apply Kd.R_drew)); exact Zg.out, by repeat (first | (with_reducible first | exact HB.out | apply below_alloc | apply pw_below_drewN | apply below_drew1) | exact HB.out)⟩
  ·rw [if_neg c3] at H
   exact absurd H (by simp)
 ·rw [if_neg c2] at H
  exact absurd H (by simp)
end Go.Proofs.Ythaiodklfoegiaa.PG
/- gatehouselaw11.roomy, walked. -/
namespace Go.Proofs.Ythaiodklfoegiaa.QRoom
open Go.RowKit YthaiodklfoegiaaW.PrintWords YthaiodklfoegiaaW.PrintLast YthaiodklfoegiaaW.PrintMore Go.Maps
open PG YthaiodklfoegiaaF BRow MPut CSame GDiffer MSide MPol OBase OGr QRoomB
attribute [local go_sem high] run_feq run_fne run_flt_lt run_flt_le run_flt_gt run_flt_ge
abbrev e0 : ByteArray := ⟨#[]⟩
abbrev qV (v0 v1 v2 v3 v4 v5 v6 v7 v8 v9 v10 : Value) : Array Value := #[v0, v1, v2, v3, v4, v5, v6, v7, v8, v9, v10]
abbrev nil : Value := .slice none 0 0
theorem z39 (w : World) : (zeroValue 39).run Try.prog w = .ok (.agg #[.slice none 0 0, .slice none 0 0, .slice none 0 0, .slice none 0 0, .slice none 0 0, .slice none 0 0, .slice none 0 0, .slice none 0 0, .slice none 0 0, .slice none 0 0, .slice none 0 0]) w := by kernel_rfl
theorem z43 (w : World) : (zeroValue 43).run Try.prog w = .ok (.agg #[.slice none 0 0, .slice none 0 0, .slice none 0 0, .slice none 0 0, .slice none 0 0, .slice none 0 0, .slice none 0 0, .slice none 0 0, .slice none 0 0, .slice none 0 0, .slice none 0 0, .slice none 0 0, .slice none 0 0, .slice none 0 0, .slice none 0 0, .slice none 0 0, .slice none 0 0, .slice none 0 0, .slice none 0 0, .slice none 0 0, .slice none 0 0, .slice none 0 0, .slice none 0 0]) w := by kernel_rfl
theorem i39 : (Try.prog.info? 39).map (·.size) = some 11 := by kernel_rfl
theorem i43 : (Try.prog.info? 43).map (·.size) = some 23 := by kernel_rfl
structure Lens (d : PolD) : Prop where
 acts : d.acts.length ≤ 1048576
 subs : d.subs.length ≤ 1048576
 roles : d.roles.length ≤ 1048576
 objs : d.objs.length ≤ 1048576
 grps : d.grps.length ≤ 1048576
 mem : d.mem.length ≤ 1048576
 inh : d.inh.length ≤ 1048576
 par : d.par.length ≤ 1048576
 wit : d.wit.length ≤ 1048576
 rules : d.rules.length ≤ 1048576
 exc : d.exc.length ≤ 1048576
 each : ∀ r ∈ d.rules, r.f3.length ≤ 1048576
theorem info78 : (Try.prog.info? 78).map (fun i => (i.zero, i.size, i.bytes)) = some (some (.agg #[(.bool false), (.string ⟨#[]⟩), (.string ⟨#[]⟩), (.slice none 0 0), (.int .i8 0), (.float .f64 0)]), 6, 80) := by kernel_rfl
theorem info28 : (Try.prog.info? 28).map (fun i => (i.zero, i.size, i.bytes)) = some (some (.agg #[(.string ⟨#[]⟩), (.string ⟨#[]⟩), (.string ⟨#[]⟩)]), 3, 48) := by kernel_rfl
theorem z78 (w : World) : (zeroValue 78).run Try.prog w = .ok (.agg #[.bool false, .string ⟨#[]⟩, .string ⟨#[]⟩, .slice none 0 0, .int .i8 0, .float .f64 0]) w := by kernel_rfl
theorem wrap_nat (j : Nat) (h : j ≤ 4194304000) : wrap64 ((j : Int) + 1) = ((j + 1 : Nat) : Int) := by unfold wrap64; omega
theorem round_end {n j : Nat} {P : Prop} (h : j < n) (hn : j ≤ 4194304000) (hP : ∀ _ : Value.int .i64 (wrap64 ((j : Int) + 1)) = Value.int .i64 ((j + 1 : Nat) : Int), P) : P ∧ n - (intOf (Value.int .i64 (wrap64 ((j : Int) + 1)))).toNat < n - (intOf (Value.int .i64 (j : Int))).toNat := by
 refine ⟨hP (by rw [wrap_nat j hn]), ?_⟩
 rw [wrap_nat j hn]
 simp only [intOf]
 omega
theorem longer_go (A : Option Addr) (c : Nat) (l : List ByteArray) (w : World) (hC : Kd.C Kd.string w A l.length l) (hc : l.length ≤ c) (h : l.length ≤ 1048576) :
  Calls Try.prog 45 #[.slice A l.length c] w fun e w' => ∃ A' c', e = .returned (.slice A' (l.length + 1) c') ∧ Kd.R Kd.string 9 w' w.heap.size (fun _ => True) (.slice A' (l.length + 1) c') (l ++ [sh]) ∧ Below w.heap.size w w' :=
 (gatehouselaw11_longer.calls A c l (l ++ [sh]) w hC hc (by
  unfold gatehouselaw11_longer.f
  rw [if_pos (by simp; omega)]
  simp only [List.nil_append, Option.bind_some]
  rw [if_pos (by omega)])).mono (by
   rintro e w' ⟨v, rfl, hR, hb⟩
   obtain ⟨A', c', hv⟩ := Kd.R_slice hR
   rw [List.length_append, List.length_singleton] at hv
   subst hv
   exact ⟨A', c', rfl, hR, hb⟩)
theorem pairs_go (A : Option Addr) (c : Nat) (l : List S108) (w : World) (hC : Kd.C k108 w A l.length l) (hc : l.length ≤ c) (h : l.length ≤ 1048576) :
  Calls Try.prog 46 #[.slice A l.length c] w fun e w' => ∃ A' c', e = .returned (.slice A' (l.length + 1) c') ∧ Kd.R k108 108 w' w.heap.size (fun _ => True) (.slice A' (l.length + 1) c') (l ++ [⟨sh, e0⟩]) ∧ Below w.heap.size w w' :=
 (gatehouselaw11_pairs.calls A c l (l ++ [⟨sh, e0⟩]) w hC hc (by
  unfold gatehouselaw11_pairs.f
  rw [if_pos (by simp; omega)]
  simp only [List.nil_append, Option.bind_some]
  rw [if_pos (by omega)])).mono (by
   rintro e w' ⟨v, rfl, hR, hb⟩
   obtain ⟨A', c', hv⟩ := Kd.R_slice hR
   rw [List.length_append, List.length_singleton] at hv
   subst hv
   exact ⟨A', c', rfl, hR, hb⟩)
theorem roomy_calls (p : Pol) (w : World) (hp : p.In w) (hd : Lens p.d) :
  Calls Try.prog 15 #[.agg p.cells] w fun e w' => ∃ (d : PolD) (Ba : Option Addr) (ka : Nat) (C1 : Option Addr) (j1 : Nat) (Br : Option Addr) (kr : Nat) (Bo : Option Addr) (ko : Nat) (Bg : Option Addr) (kg : Nat) (B5 : Option Addr) (k5 : Nat) (B6 : Option Addr) (k6 : Nat) (B7 : Option Addr) (k7 : Nat) (B8 : Option Addr) (k8 : Nat) (C9 : Option Addr) (j9 : Nat) (C10 : Option Addr) (j10 : Nat) (Bl : Option Addr) (kl : Nat) (T : List TR), d = p.d ∧ e = .returned (.agg #[.slice Ba d.acts.length ka, .slice C1 d.subs.length j1, .slice Br d.roles.length kr, .slice Bo d.objs.length ko, .slice Bg d.grps.length kg, .slice B5 d.mem.length k5, .slice B6 d.inh.length k6, .slice B7 d.par.length k7, .slice B8 d.wit.length k8, .slice C9 d.rules.length j9, .slice C10 d.exc.length j10, .slice Ba (d.acts.length + 1) ka, .slice C1 (d.subs.length + 1) j1, .slice Br (d.roles.length + 1) kr, .slice Bo (d.objs.length + 1) ko, .slice Bg (d.grps.length + 1) kg, .slice B5 (d.mem.length + 1) k5, .slice B6 (d.inh.length + 1) k6, .slice B7 (d.par.length + 1) k7, .slice B8 (d.wit.length + 1) k8, .slice C9 (d.rules.length + 1) j9, .slice C10 (d.exc.length + 1) j10, .slice Bl d.rules.length kl]) ∧ T.map (fun x => x.1) = d.rules ∧ All [ent k28 28 w.heap.size (.slice C10 (d.exc.length + 1) j10) (d.exc ++ ([⟨sh, e0, e0⟩] : List S28)), ent (Kd.raw 6) 78 w.heap.size (.slice C9 (d.rules.length + 1) j9) (T.map rcell ++ ([[Value.bool false, .string sh, .string e0, .slice none 0 0, .int .i8 0, .float .f64 0]] : List (List Value))), ent (Kd.raw 1) 22 w.heap.size (.slice Bl d.rules.length kl) (T.map lcell), entEach w.heap.size T, ent k108 108 w.heap.size (.slice B8 (d.wit.length + 1) k8) (d.wit ++ ([⟨sh, e0⟩] : List S108)), ent k108 108 w.heap.size (.slice B7 (d.par.length + 1) k7) (d.par ++ ([⟨sh, e0⟩] : List S108)), ent k108 108 w.heap.size (.slice B6 (d.inh.length + 1) k6) (d.inh ++ ([⟨sh, e0⟩] : List S108)), ent k108 108 w.heap.size (.slice B5 (d.mem.length + 1) k5) (d.mem ++ ([⟨sh, e0⟩] : List S108)), ent k54 54 w.heap.size (.slice C1 (d.subs.length + 1) j1) (d.subs ++ ([⟨sh, 0⟩] : List S54)), ent Kd.string 9 w.heap.size (.slice Bg (d.grps.length + 1) kg) (d.grps ++ [sh]), ent Kd.string 9 w.heap.size (.slice Bo (d.objs.length + 1) ko) (d.objs ++ [sh]), ent Kd.string 9 w.heap.size (.slice Br (d.roles.length + 1) kr) (d.roles ++ [sh]), ent Kd.string 9 w.heap.size (.slice Ba (d.acts.length + 1) ka) (d.acts ++ [sh])] w' ∧ Below w.heap.size w w' := by
 obtain ⟨d, A0, c0, A1, c1, A2, c2, A3, c3, A4, c4, A5, c5, A6, c6, A7, c7, A8, c8, A9, c9, A10, c10⟩ := p
 have HP := jA hp
 have HK := jA (show Lens d from hd)
 clear hp hd
 have hst : Stays ((w.alloc (.cells #[.slice A0 d.acts.length c0, .slice A1 d.subs.length c1, .slice A2 d.roles.length c2, .slice A3 d.objs.length c3, .slice A4 d.grps.length c4, .slice A5 d.mem.length c5, .slice A6 d.inh.length c6, .slice A7 d.par.length c7, .slice A8 d.wit.length c8, .slice A9 d.rules.length c9, .slice A10 d.exc.length c10] 39)).alloc (.cells #[.slice none 0 0, .slice none 0 0, .slice none 0 0, .slice none 0 0, .slice none 0 0, .slice none 0 0, .slice none 0 0, .slice none 0 0, .slice none 0 0, .slice none 0 0, .slice none 0 0, .slice none 0 0, .slice none 0 0, .slice none 0 0, .slice none 0 0, .slice none 0 0, .slice none 0 0, .slice none 0 0, .slice none 0 0, .slice none 0 0, .slice none 0 0, .slice none 0 0, .slice none 0 0] 43)) w.heap.size #[.slice A0 d.acts.length c0, .slice A1 d.subs.length c1, .slice A2 d.roles.length c2, .slice A3 d.objs.length c3, .slice A4 d.grps.length c4, .slice A5 d.mem.length c5, .slice A6 d.inh.length c6, .slice A7 d.par.length c7, .slice A8 d.wit.length c8, .slice A9 d.rules.length c9, .slice A10 d.exc.length c10] 39 := Stays.below (heap_alloc_new w _) (below_alloc (Below.refl _ _) _)
 have hsv : Stays ((w.alloc (.cells #[.slice A0 d.acts.length c0, .slice A1 d.subs.length c1, .slice A2 d.roles.length c2, .slice A3 d.objs.length c3, .slice A4 d.grps.length c4, .slice A5 d.mem.length c5, .slice A6 d.inh.length c6, .slice A7 d.par.length c7, .slice A8 d.wit.length c8, .slice A9 d.rules.length c9, .slice A10 d.exc.length c10] 39)).alloc (.cells #[.slice none 0 0, .slice none 0 0, .slice none 0 0, .slice none 0 0, .slice none 0 0, .slice none 0 0, .slice none 0 0, .slice none 0 0, .slice none 0 0, .slice none 0 0, .slice none 0 0, .slice none 0 0, .slice none 0 0, .slice none 0 0, .slice none 0 0, .slice none 0 0, .slice none 0 0, .slice none 0 0, .slice none 0 0, .slice none 0 0, .slice none 0 0, .slice none 0 0, .slice none 0 0] 43)) (w.heap.size + 1) #[.slice none 0 0, .slice none 0 0, .slice none 0 0, .slice none 0 0, .slice none 0 0, .slice none 0 0, .slice none 0 0, .slice none 0 0, .slice none 0 0, .slice none 0 0, .slice none 0 0, .slice none 0 0, .slice none 0 0, .slice none 0 0, .slice none 0 0, .slice none 0 0, .slice none 0 0, .slice none 0 0, .slice none 0 0, .slice none 0 0, .slice none 0 0, .slice none 0 0, .slice none 0 0] 43 := by
  have h := heap_alloc_new (w.alloc (.cells #[.slice A0 d.acts.length c0, .slice A1 d.subs.length c1, .slice A2 d.roles.length c2, .slice A3 d.objs.length c3, .slice A4 d.grps.length c4, .slice A5 d.mem.length c5, .slice A6 d.inh.length c6, .slice A7 d.par.length c7, .slice A8 d.wit.length c8, .slice A9 d.rules.length c9, .slice A10 d.exc.length c10] 39)) (.cells #[.slice none 0 0, .slice none 0 0, .slice none 0 0, .slice none 0 0, .slice none 0 0, .slice none 0 0, .slice none 0 0, .slice none 0 0, .slice none 0 0, .slice none 0 0, .slice none 0 0, .slice none 0 0, .slice none 0 0, .slice none 0 0, .slice none 0 0, .slice none 0 0, .slice none 0 0, .slice none 0 0, .slice none 0 0, .slice none 0 0, .slice none 0 0, .slice none 0 0, .slice none 0 0] 43)
  rw [World.size_alloc] at h
  exact h
 have hb0 : Below w.heap.size w ((w.alloc (.cells #[.slice A0 d.acts.length c0, .slice A1 d.subs.length c1, .slice A2 d.roles.length c2, .slice A3 d.objs.length c3, .slice A4 d.grps.length c4, .slice A5 d.mem.length c5, .slice A6 d.inh.length c6, .slice A7 d.par.length c7, .slice A8 d.wit.length c8, .slice A9 d.rules.length c9, .slice A10 d.exc.length c10] 39)).alloc (.cells #[.slice none 0 0, .slice none 0 0, .slice none 0 0, .slice none 0 0, .slice none 0 0, .slice none 0 0, .slice none 0 0, .slice none 0 0, .slice none 0 0, .slice none 0 0, .slice none 0 0, .slice none 0 0, .slice none 0 0, .slice none 0 0, .slice none 0 0, .slice none 0 0, .slice none 0 0, .slice none 0 0, .slice none 0 0, .slice none 0 0, .slice none 0 0, .slice none 0 0, .slice none 0 0] 43)) := below_alloc (below_alloc (Below.refl _ _) _) _
 have hz := z43
 unfold Pol.cells
 go_enter Try.func15, Try.ntmps15
 go_upto_region 1 with fail
 clear hz
 obtain ⟨W0, hW0⟩ : ∃ W0, W0 = (w.alloc (.cells #[.slice A0 d.acts.length c0, .slice A1 d.subs.length c1, .slice A2 d.roles.length c2, .slice A3 d.objs.length c3, .slice A4 d.grps.length c4, .slice A5 d.mem.length c5, .slice A6 d.inh.length c6, .slice A7 d.par.length c7, .slice A8 d.wit.length c8, .slice A9 d.rules.length c9, .slice A10 d.exc.length c10] 39)).alloc (.cells #[.slice none 0 0, .slice none 0 0, .slice none 0 0, .slice none 0 0, .slice none 0 0, .slice none 0 0, .slice none 0 0, .slice none 0 0, .slice none 0 0, .slice none 0 0, .slice none 0 0, .slice none 0 0, .slice none 0 0, .slice none 0 0, .slice none 0 0, .slice none 0 0, .slice none 0 0, .slice none 0 0, .slice none 0 0, .slice none 0 0, .slice none 0 0, .slice none 0 0, .slice none 0 0] 43) := ⟨_, rfl⟩
 obtain ⟨gv, hgv⟩ : ∃ gv, gv = w.heap.size + 1 := ⟨_, rfl⟩
 rw [← hW0] at hst hsv hb0 ⊢
 rw [← hgv] at hsv ⊢
 have HGV := jA (show w.heap.size < gv by omega)
 have HB0 := jA hst
 have HV0 := jA hsv
 have HW0 := jA hb0
 clear hst hsv hb0 hW0 hgv
 go_cut [3] (fun v3 wx => ∃ (g3 : Nat) (Ba : Option Addr) (ka : Nat) (Br : Option Addr) (kr : Nat) (Bo : Option Addr) (ko : Nat) (Bg : Option Addr) (kg : Nat), v3 = .pointer (some ⟨g3, 0, none⟩) ∧ Aside0 (gv < g3) ∧ Aside0 (Rm w w.heap.size gv g3 #[.slice A0 d.acts.length c0, .slice A1 d.subs.length c1, .slice A2 d.roles.length c2, .slice A3 d.objs.length c3, .slice A4 d.grps.length c4, .slice A5 d.mem.length c5, .slice A6 d.inh.length c6, .slice A7 d.par.length c7, .slice A8 d.wit.length c8, .slice A9 d.rules.length c9, .slice A10 d.exc.length c10] #[.slice none 0 0, .slice none 0 0, .slice none 0 0, .slice none 0 0, .slice none 0 0, .slice none 0 0, .slice none 0 0, .slice none 0 0, .slice none 0 0, .slice none 0 0, .slice none 0 0, .slice none 0 0, .slice none 0 0, .slice none 0 0, .slice none 0 0, .slice none 0 0, .slice none 0 0, .slice none 0 0, .slice none 0 0, .slice none 0 0, .slice none 0 0, .slice none 0 0, .slice none 0 0] (qV (.slice Ba (d.acts.length + 1) ka) nil (.slice Br (d.roles.length + 1) kr) (.slice Bo (d.objs.length + 1) ko) (.slice Bg (d.grps.length + 1) kg) nil nil nil nil nil nil) [ent Kd.string 9 w.heap.size (.slice Bg (d.grps.length + 1) kg) (d.grps ++ [sh]), ent Kd.string 9 w.heap.size (.slice Bo (d.objs.length + 1) ko) (d.objs ++ [sh]), ent Kd.string 9 w.heap.size (.slice Br (d.roles.length + 1) kr) (d.roles ++ [sh]), ent Kd.string 9 w.heap.size (.slice Ba (d.acts.length + 1) ka) (d.acts ++ [sh])] wx))
 case first =>
  have HB1 := jA (below_drew (Below.refl W0.heap.size W0))
  refine start_ (n := 15) (S := fun w' => w'.cell? ⟨w.heap.size, 0, none⟩ = some (.slice A0 d.acts.length c0) ∧ w'.cell? ⟨w.heap.size, 2, none⟩ = some (.slice A2 d.roles.length c2) ∧ w'.cell? ⟨w.heap.size, 3, none⟩ = some (.slice A3 d.objs.length c3) ∧ w'.cell? ⟨w.heap.size, 4, none⟩ = some (.slice A4 d.grps.length c4)) (ds := [14]) (Jb 15 0) (by kernel_rfl) rfl (by kernel_rfl) ⟨HB0.out.cell 0, HB0.out.cell 2, HB0.out.cell 3, HB0.out.cell 4⟩ (fun hHeld => ?_)
  obtain ⟨W1, hW1⟩ : ∃ W1, W1 = W0.drew := ⟨_, rfl⟩
  rw [← hW1] at hHeld HB1 ⊢
  have HA := jA (All.nil W1)
  clear hW1
  refine Jp 0 9 (Jb 15 1) rfl rfl ?_
  refine Jk 1 10 (Jb 15 3) rfl rfl hHeld (.inl ⟨by rfl, by rintro w' ⟨s0, s1, s2, s3⟩; go_simp; with_reducible rfl⟩) ?_
  refine Jp 3 12 (Jb 15 11) rfl rfl ?_
  refine Jk 4 13 (Jb 15 27) rfl rfl hHeld (.inl ⟨by rfl, by rintro w' ⟨s0, s1, s2, s3⟩; go_simp; with_reducible rfl⟩) ?_
  refine Jp 6 15 (Jb 15 91) rfl rfl ?_
  refine Jk 7 16 (Jb 15 219) rfl rfl hHeld (.inl ⟨by rfl, by rintro w' ⟨s0, s1, s2, s3⟩; go_simp; with_reducible rfl⟩) ?_
  refine Jp 9 18 (Jb 15 731) rfl rfl ?_
  refine Jk 10 19 (Jb 15 1755) rfl rfl hHeld (.inl ⟨by rfl, by rintro w' ⟨s0, s1, s2, s3⟩; go_simp; with_reducible rfl⟩) ?_
  refine two_ (i := 2) (j := 13) (Ni := some 11) (Nj := some 3) (Jb 15 1759) (Jb 15 9947) rfl rfl rfl rfl (by kernel_rfl) (by decide) (by decide) (fun K hK => ?_) (fun K hK => ?_)
  ·refine goes_ Try.func45 (by kernel_rfl) rfl #[.slice A0 d.acts.length c0] (by rfl) rfl rfl (by (try simp only [List.map_toArray, List.map_cons, List.map_nil]); first | done | rfl) ?_
   refine (longer_go A0 c0 d.acts _ ((HP.out.below (below_then HW0.out HW0.out.size HB1.out)).h0) HP.out.l0 HK.out.acts).mono ?_
   rintro e w2 ⟨Ba, ka, rfl, hR, hb⟩
   refine ⟨_, rfl, ?_⟩
   have HB2 := jA (below_then HB1.out HB1.out.size hb)
   have HA := jA (All.cons (E := ent Kd.string 9 w.heap.size (.slice Ba (d.acts.length + 1) ka) (d.acts ++ [sh])) (Kd.R_lower hR (Nat.le_trans HW0.out.size HB1.out.size)) (HA.out.below hb))
   clear hR hb
   refine hK.out _ _ ⟨pw_cell_below HB2.out (HB0.out.cell 0), pw_cell_below HB2.out (HB0.out.cell 2), pw_cell_below HB2.out (HB0.out.cell 3), pw_cell_below HB2.out (HB0.out.cell 4)⟩ (fun hHeld => ?_)
   clear hK K
   refine norm_ (a' := ?_) ?_ ?_; rotate_left; (show Act.put _ (some 11) _ = _; simp only [Act.put, Jq, Jr, Js]; rfl)
   refine two_ (i := 5) (j := 13) (Ni := some 14) (Nj := some 3) (Jb 15 1791) (Jb 15 9951) rfl rfl rfl rfl (by kernel_rfl) (by decide) (by decide) (fun K hK => ?_) (fun K hK => ?_)
   ·refine goes_ Try.func45 (by kernel_rfl) rfl #[.slice A2 d.roles.length c2] (by rfl) rfl rfl (by (try simp only [List.map_toArray, List.map_cons, List.map_nil]); first | done | rfl) ?_
    refine (longer_go A2 c2 d.roles _ ((HP.out.below (below_then HW0.out HW0.out.size HB2.out)).h2) HP.out.l2 HK.out.roles).mono ?_
    rintro e w5 ⟨Br, kr, rfl, hR, hb⟩
    refine ⟨_, rfl, ?_⟩
    have HB3 := jA (below_then HB2.out HB2.out.size hb)
    have HA := jA (All.cons (E := ent Kd.string 9 w.heap.size (.slice Br (d.roles.length + 1) kr) (d.roles ++ [sh])) (Kd.R_lower hR (Nat.le_trans HW0.out.size HB2.out.size)) (HA.out.below hb))
    clear hR hb
    refine hK.out _ _ ⟨pw_cell_below HB3.out (HB0.out.cell 0), pw_cell_below HB3.out (HB0.out.cell 2), pw_cell_below HB3.out (HB0.out.cell 3), pw_cell_below HB3.out (HB0.out.cell 4)⟩ (fun hHeld => ?_)
    clear hK K
    refine norm_ (a' := ?_) ?_ ?_; rotate_left; (show Act.put _ (some 14) _ = _; simp only [Act.put, Jq, Jr, Js]; rfl)
    refine two_ (i := 8) (j := 13) (Ni := some 17) (Nj := some 3) (Jb 15 2047) (Jb 15 9983) rfl rfl rfl rfl (by kernel_rfl) (by decide) (by decide) (fun K hK => ?_) (fun K hK => ?_)
    ·refine goes_ Try.func45 (by kernel_rfl) rfl #[.slice A3 d.objs.length c3] (by rfl) rfl rfl (by (try simp only [List.map_toArray, List.map_cons, List.map_nil]); first | done | rfl) ?_
     refine (longer_go A3 c3 d.objs _ ((HP.out.below (below_then HW0.out HW0.out.size HB3.out)).h3) HP.out.l3 HK.out.objs).mono ?_
     rintro e w8 ⟨Bo, ko, rfl, hR, hb⟩
     refine ⟨_, rfl, ?_⟩
     have HB4 := jA (below_then HB3.out HB3.out.size hb)
     have HA := jA (All.cons (E := ent Kd.string 9 w.heap.size (.slice Bo (d.objs.length + 1) ko) (d.objs ++ [sh])) (Kd.R_lower hR (Nat.le_trans HW0.out.size HB3.out.size)) (HA.out.below hb))
     clear hR hb
     refine hK.out _ _ ⟨pw_cell_below HB4.out (HB0.out.cell 0), pw_cell_below HB4.out (HB0.out.cell 2), pw_cell_below HB4.out (HB0.out.cell 3), pw_cell_below HB4.out (HB0.out.cell 4)⟩ (fun hHeld => ?_)
     clear hK K
     refine norm_ (a' := ?_) ?_ ?_; rotate_left; (show Act.put _ (some 17) _ = _; simp only [Act.put, Jq, Jr, Js]; rfl)
     refine two_ (i := 11) (j := 13) (Ni := some 20) (Nj := some 3) (Jb 15 4095) (Jb 15 10239) rfl rfl rfl rfl (by kernel_rfl) (by decide) (by decide) (fun K hK => ?_) (fun K hK => ?_)
     ·refine goes_ Try.func45 (by kernel_rfl) rfl #[.slice A4 d.grps.length c4] (by rfl) rfl rfl (by (try simp only [List.map_toArray, List.map_cons, List.map_nil]); first | done | rfl) ?_
      refine (longer_go A4 c4 d.grps _ ((HP.out.below (below_then HW0.out HW0.out.size HB4.out)).h4) HP.out.l4 HK.out.grps).mono ?_
      rintro e w11 ⟨Bg, kg, rfl, hR, hb⟩
      refine ⟨_, rfl, ?_⟩
      have HB5 := jA (below_then HB4.out HB4.out.size hb)
      have HA := jA (All.cons (E := ent Kd.string 9 w.heap.size (.slice Bg (d.grps.length + 1) kg) (d.grps ++ [sh])) (Kd.R_lower hR (Nat.le_trans HW0.out.size HB4.out.size)) (HA.out.below hb))
      clear hR hb
      refine hK.out _ _ ⟨pw_cell_below HB5.out (HB0.out.cell 0), pw_cell_below HB5.out (HB0.out.cell 2), pw_cell_below HB5.out (HB0.out.cell 3), pw_cell_below HB5.out (HB0.out.cell 4)⟩ (fun hHeld => ?_)
      clear hK K
      refine norm_ (a' := ?_) ?_ ?_; rotate_left; (show Act.put _ (some 20) _ = _; simp only [Act.put, Jq, Jr, Js]; rfl)
      refine pure_ (i := 12) (N := some 21) (v := ?_) (a' := ?_) (Jb 15 8191) rfl rfl (by kernel_rfl) (fun _ _ _ h => h) (Or.inl ⟨by rfl, ?_⟩) ?_ ?_
      rotate_left
      ·intro w'
       have hz := z39
       go_simp
       with_reducible rfl
      rotate_left
      ·simp only [Act.put, Jq, Jr, Js]
       rfl
      refine one_ (i := 13) (N := some 3) (Jb 15 16383) rfl rfl (by kernel_rfl) (by decide) (fun K hK => ?_)
      refine GDiffer.step_run (w' := World.alloc w11 (.cells #[.slice none 0 0, .slice none 0 0, .slice none 0 0, .slice none 0 0, .slice none 0 0, .slice none 0 0, .slice none 0 0, .slice none 0 0, .slice none 0 0, .slice none 0 0, .slice none 0 0] 39)) (v := .pointer (some ⟨World.heap w11 |>.size, 0, none⟩)) rfl rfl (by have hz := z39; go_simp) ?_
      have hs3 : Stays (World.alloc w11 (.cells #[.slice none 0 0, .slice none 0 0, .slice none 0 0, .slice none 0 0, .slice none 0 0, .slice none 0 0, .slice none 0 0, .slice none 0 0, .slice none 0 0, .slice none 0 0, .slice none 0 0] 39)) (World.heap w11).size #[.slice none 0 0, .slice none 0 0, .slice none 0 0, .slice none 0 0, .slice none 0 0, .slice none 0 0, .slice none 0 0, .slice none 0 0, .slice none 0 0, .slice none 0 0, .slice none 0 0] 39 := heap_alloc_new w11 _
      have hb := below_alloc (Below.refl _ w11) (.cells #[.slice none 0 0, .slice none 0 0, .slice none 0 0, .slice none 0 0, .slice none 0 0, .slice none 0 0, .slice none 0 0, .slice none 0 0, .slice none 0 0, .slice none 0 0, .slice none 0 0] 39)
      have HB6 := jA (below_then HB5.out HB5.out.size hb)
      have hle : W0.heap.size ≤ (World.heap w11).size := HB5.out.size
      have HA := jA (HA.out.below hb)
      obtain ⟨W7, hW7⟩ : ∃ W7, W7 = World.alloc w11 (.cells #[.slice none 0 0, .slice none 0 0, .slice none 0 0, .slice none 0 0, .slice none 0 0, .slice none 0 0, .slice none 0 0, .slice none 0 0, .slice none 0 0, .slice none 0 0, .slice none 0 0] 39) := ⟨_, rfl⟩
      obtain ⟨g3, hg3⟩ : ∃ g3, g3 = (World.heap w11).size := ⟨_, rfl⟩
      rw [← hW7] at hs3 HB6 HA ⊢
      rw [← hg3] at hs3 hle ⊢
      have HS3 := jA hs3
      have HLE := jA hle
      have HG3 := jA (show gv < g3 by have := (Array.getElem?_eq_some_iff.1 HV0.out).1; omega)
      clear hs3 hb hle hW7 hg3
      refine hK.out _ _ ⟨pw_cell_below HB6.out (HB0.out.cell 0), pw_cell_below HB6.out (HB0.out.cell 2), pw_cell_below HB6.out (HB0.out.cell 3), pw_cell_below HB6.out (HB0.out.cell 4)⟩ (fun hHeld => ?_)
      clear hK K
      refine norm_ (a' := ?_) ?_ ?_; rotate_left; (show Act.put _ (some 3) _ = _; simp only [Act.put, Jq, Jr, Js]; rfl)
      refine last_ (i := 14) (N := none) (Jb 15 32767) rfl rfl (by kernel_rfl) (by decide) (fun K hK => ?_)
      have hst := run_storeAt_mid (P := Try.prog) W7 g3 0 39 (qV (.slice Ba (d.acts.length + 1) ka) nil (.slice Br (d.roles.length + 1) kr) (.slice Bo (d.objs.length + 1) ko) (.slice Bg (d.grps.length + 1) kg) nil nil nil nil nil nil) (Stays.there (cs := #[.slice none 0 0, .slice none 0 0, .slice none 0 0, .slice none 0 0, .slice none 0 0, .slice none 0 0, .slice none 0 0, .slice none 0 0, .slice none 0 0, .slice none 0 0, .slice none 0 0]) HS3.out) i39 (by simp [qV, nil, Value.oneCell'])
      refine GDiffer.step_skip (w' := World.setCells W7 g3 0 (qV (.slice Ba (d.acts.length + 1) ka) nil (.slice Br (d.roles.length + 1) kr) (.slice Bo (d.objs.length + 1) ko) (.slice Bg (d.grps.length + 1) kg) nil nil nil nil nil nil).toList) rfl rfl (by first | (simp [execOp, Act.eval, hst]; done) | (show Sem.run Try.prog _ _ = _; simp only [execOp, Act.eval]; simp; rw [hst]; rfl)) ?_
      refine hK.out _ _ ?_
      clear hK K hst
      refine done_ (by kernel_rfl) ?_
      have hS3 := setCells_var (vs := (qV (.slice Ba (d.acts.length + 1) ka) nil (.slice Br (d.roles.length + 1) kr) (.slice Bo (d.objs.length + 1) ko) (.slice Bg (d.grps.length + 1) kg) nil nil nil nil nil nil)) HS3.out rfl
      have hbb := setCells_below HB6.out HLE.out (qV (.slice Ba (d.acts.length + 1) ka) nil (.slice Br (d.roles.length + 1) kr) (.slice Bo (d.objs.length + 1) ko) (.slice Bg (d.grps.length + 1) kg) nil nil nil nil nil nil).toList
      have hAL := HA.out.only (Only.sets HS3.out (qV (.slice Ba (d.acts.length + 1) ka) nil (.slice Br (d.roles.length + 1) kr) (.slice Bo (d.objs.length + 1) ko) (.slice Bg (d.grps.length + 1) kg) nil nil nil nil nil nil).toList) rfl
      have HF := jA (Rm.mk (g1 := w.heap.size) (gv := gv) (HB0.out.below hbb) (HV0.out.below hbb) hS3 hAL (below_then HW0.out HW0.out.size hbb) (by have := HG3.out; have := HGV.out; omega) (by have := HG3.out; have := HGV.out; omega))
      clear hS3 hbb hAL hHeld
      go_wp2
      go_meet
      exact ⟨g3, _, _, _, _, _, _, _, _, rfl, HG3, HF⟩
     ·refine GDiffer.step_run (w' := World.alloc w8 (.cells #[.slice none 0 0, .slice none 0 0, .slice none 0 0, .slice none 0 0, .slice none 0 0, .slice none 0 0, .slice none 0 0, .slice none 0 0, .slice none 0 0, .slice none 0 0, .slice none 0 0] 39)) (v := .pointer (some ⟨World.heap w8 |>.size, 0, none⟩)) rfl rfl (by have hz := z39; go_simp) ?_
      have hs3 : Stays (World.alloc w8 (.cells #[.slice none 0 0, .slice none 0 0, .slice none 0 0, .slice none 0 0, .slice none 0 0, .slice none 0 0, .slice none 0 0, .slice none 0 0, .slice none 0 0, .slice none 0 0, .slice none 0 0] 39)) (World.heap w8).size #[.slice none 0 0, .slice none 0 0, .slice none 0 0, .slice none 0 0, .slice none 0 0, .slice none 0 0, .slice none 0 0, .slice none 0 0, .slice none 0 0, .slice none 0 0, .slice none 0 0] 39 := heap_alloc_new w8 _
      have hb := below_alloc (Below.refl _ w8) (.cells #[.slice none 0 0, .slice none 0 0, .slice none 0 0, .slice none 0 0, .slice none 0 0, .slice none 0 0, .slice none 0 0, .slice none 0 0, .slice none 0 0, .slice none 0 0, .slice none 0 0] 39)
      have HB5 := jA (below_then HB4.out HB4.out.size hb)
      have hle : W0.heap.size ≤ (World.heap w8).size := HB4.out.size
      have HA := jA (HA.out.below hb)
      obtain ⟨W7, hW7⟩ : ∃ W7, W7 = World.alloc w8 (.cells #[.slice none 0 0, .slice none 0 0, .slice none 0 0, .slice none 0 0, .slice none 0 0, .slice none 0 0, .slice none 0 0, .slice none 0 0, .slice none 0 0, .slice none 0 0, .slice none 0 0] 39) := ⟨_, rfl⟩
      obtain ⟨g3, hg3⟩ : ∃ g3, g3 = (World.heap w8).size := ⟨_, rfl⟩
      rw [← hW7] at hs3 HB5 HA ⊢
      rw [← hg3] at hs3 hle ⊢
      have HS3 := jA hs3
      have HLE := jA hle
      have HG3 := jA (show gv < g3 by have := (Array.getElem?_eq_some_iff.1 HV0.out).1; omega)
      clear hs3 hb hle hW7 hg3
      refine hK.out _ _ ⟨pw_cell_below HB5.out (HB0.out.cell 0), pw_cell_below HB5.out (HB0.out.cell 2), pw_cell_below HB5.out (HB0.out.cell 3), pw_cell_below HB5.out (HB0.out.cell 4)⟩ (fun hHeld => ?_)
      clear hK K
      refine norm_ (a' := ?_) ?_ ?_; rotate_left; (show Act.put _ (some 3) _ = _; simp only [Act.put, Jq, Jr, Js]; rfl)
      refine one_ (i := 11) (N := some 20) (Jb 15 12287) rfl rfl (by kernel_rfl) (by decide) (fun K hK => ?_)
      refine goes_ Try.func45 (by kernel_rfl) rfl #[.slice A4 d.grps.length c4] (by rfl) rfl rfl (by (try simp only [List.map_toArray, List.map_cons, List.map_nil]); first | done | rfl) ?_
      refine (longer_go A4 c4 d.grps _ ((HP.out.below (below_then HW0.out HW0.out.size HB5.out)).h4) HP.out.l4 HK.out.grps).mono ?_
      rintro e w11 ⟨Bg, kg, rfl, hR, hb⟩
      refine ⟨_, rfl, ?_⟩
      have HB6 := jA (below_then HB5.out HB5.out.size hb)
      have HS3 := jA (HS3.out.below hb)
      have HA := jA (All.cons (E := ent Kd.string 9 w.heap.size (.slice Bg (d.grps.length + 1) kg) (d.grps ++ [sh])) (Kd.R_lower hR (Nat.le_trans HW0.out.size HB5.out.size)) (HA.out.below hb))
      clear hR hb
      refine hK.out _ _ ⟨pw_cell_below HB6.out (HB0.out.cell 0), pw_cell_below HB6.out (HB0.out.cell 2), pw_cell_below HB6.out (HB0.out.cell 3), pw_cell_below HB6.out (HB0.out.cell 4)⟩ (fun hHeld => ?_)
      clear hK K
      refine norm_ (a' := ?_) ?_ ?_; rotate_left; (show Act.put _ (some 20) _ = _; simp only [Act.put, Jq, Jr, Js]; rfl)
      refine pure_ (i := 12) (N := some 21) (v := ?_) (a' := ?_) (Jb 15 16383) rfl rfl (by kernel_rfl) (fun _ _ _ h => h) (Or.inl ⟨by rfl, ?_⟩) ?_ ?_
      rotate_left
      ·intro w'
       have hz := z39
       go_simp
       with_reducible rfl
      rotate_left
      ·simp only [Act.put, Jq, Jr, Js]
       rfl
      refine last_ (i := 14) (N := none) (Jb 15 32767) rfl rfl (by kernel_rfl) (by decide) (fun K hK => ?_)
      have hst := run_storeAt_mid (P := Try.prog) w11 g3 0 39 (qV (.slice Ba (d.acts.length + 1) ka) nil (.slice Br (d.roles.length + 1) kr) (.slice Bo (d.objs.length + 1) ko) (.slice Bg (d.grps.length + 1) kg) nil nil nil nil nil nil) (Stays.there (cs := #[.slice none 0 0, .slice none 0 0, .slice none 0 0, .slice none 0 0, .slice none 0 0, .slice none 0 0, .slice none 0 0, .slice none 0 0, .slice none 0 0, .slice none 0 0, .slice none 0 0]) HS3.out) i39 (by simp [qV, nil, Value.oneCell'])
      refine GDiffer.step_skip (w' := World.setCells w11 g3 0 (qV (.slice Ba (d.acts.length + 1) ka) nil (.slice Br (d.roles.length + 1) kr) (.slice Bo (d.objs.length + 1) ko) (.slice Bg (d.grps.length + 1) kg) nil nil nil nil nil nil).toList) rfl rfl (by first | (simp [execOp, Act.eval, hst]; done) | (show Sem.run Try.prog _ _ = _; simp only [execOp, Act.eval]; simp; rw [hst]; rfl)) ?_
      refine hK.out _ _ ?_
      clear hK K hst
      refine done_ (by kernel_rfl) ?_
      have hS3 := setCells_var (vs := (qV (.slice Ba (d.acts.length + 1) ka) nil (.slice Br (d.roles.length + 1) kr) (.slice Bo (d.objs.length + 1) ko) (.slice Bg (d.grps.length + 1) kg) nil nil nil nil nil nil)) HS3.out rfl
      have hbb := setCells_below HB6.out HLE.out (qV (.slice Ba (d.acts.length + 1) ka) nil (.slice Br (d.roles.length + 1) kr) (.slice Bo (d.objs.length + 1) ko) (.slice Bg (d.grps.length + 1) kg) nil nil nil nil nil nil).toList
      have hAL := HA.out.only (Only.sets HS3.out (qV (.slice Ba (d.acts.length + 1) ka) nil (.slice Br (d.roles.length + 1) kr) (.slice Bo (d.objs.length + 1) ko) (.slice Bg (d.grps.length + 1) kg) nil nil nil nil nil nil).toList) rfl
      have HF := jA (Rm.mk (g1 := w.heap.size) (gv := gv) (HB0.out.below hbb) (HV0.out.below hbb) hS3 hAL (below_then HW0.out HW0.out.size hbb) (by have := HG3.out; have := HGV.out; omega) (by have := HG3.out; have := HGV.out; omega))
      clear hS3 hbb hAL hHeld
      go_wp2
      go_meet
      exact ⟨g3, _, _, _, _, _, _, _, _, rfl, HG3, HF⟩
    ·refine GDiffer.step_run (w' := World.alloc w5 (.cells #[.slice none 0 0, .slice none 0 0, .slice none 0 0, .slice none 0 0, .slice none 0 0, .slice none 0 0, .slice none 0 0, .slice none 0 0, .slice none 0 0, .slice none 0 0, .slice none 0 0] 39)) (v := .pointer (some ⟨World.heap w5 |>.size, 0, none⟩)) rfl rfl (by have hz := z39; go_simp) ?_
     have hs3 : Stays (World.alloc w5 (.cells #[.slice none 0 0, .slice none 0 0, .slice none 0 0, .slice none 0 0, .slice none 0 0, .slice none 0 0, .slice none 0 0, .slice none 0 0, .slice none 0 0, .slice none 0 0, .slice none 0 0] 39)) (World.heap w5).size #[.slice none 0 0, .slice none 0 0, .slice none 0 0, .slice none 0 0, .slice none 0 0, .slice none 0 0, .slice none 0 0, .slice none 0 0, .slice none 0 0, .slice none 0 0, .slice none 0 0] 39 := heap_alloc_new w5 _
     have hb := below_alloc (Below.refl _ w5) (.cells #[.slice none 0 0, .slice none 0 0, .slice none 0 0, .slice none 0 0, .slice none 0 0, .slice none 0 0, .slice none 0 0, .slice none 0 0, .slice none 0 0, .slice none 0 0, .slice none 0 0] 39)
     have HB4 := jA (below_then HB3.out HB3.out.size hb)
     have hle : W0.heap.size ≤ (World.heap w5).size := HB3.out.size
     have HA := jA (HA.out.below hb)
     obtain ⟨W7, hW7⟩ : ∃ W7, W7 = World.alloc w5 (.cells #[.slice none 0 0, .slice none 0 0, .slice none 0 0, .slice none 0 0, .slice none 0 0, .slice none 0 0, .slice none 0 0, .slice none 0 0, .slice none 0 0, .slice none 0 0, .slice none 0 0] 39) := ⟨_, rfl⟩
     obtain ⟨g3, hg3⟩ : ∃ g3, g3 = (World.heap w5).size := ⟨_, rfl⟩
     rw [← hW7] at hs3 HB4 HA ⊢
     rw [← hg3] at hs3 hle ⊢
     have HS3 := jA hs3
     have HLE := jA hle
     have HG3 := jA (show gv < g3 by have := (Array.getElem?_eq_some_iff.1 HV0.out).1; omega)
     clear hs3 hb hle hW7 hg3
     refine hK.out _ _ ⟨pw_cell_below HB4.out (HB0.out.cell 0), pw_cell_below HB4.out (HB0.out.cell 2), pw_cell_below HB4.out (HB0.out.cell 3), pw_cell_below HB4.out (HB0.out.cell 4)⟩ (fun hHeld => ?_)
     clear hK K
     refine norm_ (a' := ?_) ?_ ?_; rotate_left; (show Act.put _ (some 3) _ = _; simp only [Act.put, Jq, Jr, Js]; rfl)
     refine one_ (i := 8) (N := some 17) (Jb 15 10239) rfl rfl (by kernel_rfl) (by decide) (fun K hK => ?_)
     refine goes_ Try.func45 (by kernel_rfl) rfl #[.slice A3 d.objs.length c3] (by rfl) rfl rfl (by (try simp only [List.map_toArray, List.map_cons, List.map_nil]); first | done | rfl) ?_
     refine (longer_go A3 c3 d.objs _ ((HP.out.below (below_then HW0.out HW0.out.size HB4.out)).h3) HP.out.l3 HK.out.objs).mono ?_
     rintro e w8 ⟨Bo, ko, rfl, hR, hb⟩
     refine ⟨_, rfl, ?_⟩
     have HB5 := jA (below_then HB4.out HB4.out.size hb)
     have HS3 := jA (HS3.out.below hb)
     have HA := jA (All.cons (E := ent Kd.string 9 w.heap.size (.slice Bo (d.objs.length + 1) ko) (d.objs ++ [sh])) (Kd.R_lower hR (Nat.le_trans HW0.out.size HB4.out.size)) (HA.out.below hb))
     clear hR hb
     refine hK.out _ _ ⟨pw_cell_below HB5.out (HB0.out.cell 0), pw_cell_below HB5.out (HB0.out.cell 2), pw_cell_below HB5.out (HB0.out.cell 3), pw_cell_below HB5.out (HB0.out.cell 4)⟩ (fun hHeld => ?_)
     clear hK K
     refine norm_ (a' := ?_) ?_ ?_; rotate_left; (show Act.put _ (some 17) _ = _; simp only [Act.put, Jq, Jr, Js]; rfl)
     refine one_ (i := 11) (N := some 20) (Jb 15 12287) rfl rfl (by kernel_rfl) (by decide) (fun K hK => ?_)
     refine goes_ Try.func45 (by kernel_rfl) rfl #[.slice A4 d.grps.length c4] (by rfl) rfl rfl (by (try simp only [List.map_toArray, List.map_cons, List.map_nil]); first | done | rfl) ?_
     refine (longer_go A4 c4 d.grps _ ((HP.out.below (below_then HW0.out HW0.out.size HB5.out)).h4) HP.out.l4 HK.out.grps).mono ?_
     rintro e w11 ⟨Bg, kg, rfl, hR, hb⟩
     refine ⟨_, rfl, ?_⟩
     have HB6 := jA (below_then HB5.out HB5.out.size hb)
     have HS3 := jA (HS3.out.below hb)
     have HA := jA (All.cons (E := ent Kd.string 9 w.heap.size (.slice Bg (d.grps.length + 1) kg) (d.grps ++ [sh])) (Kd.R_lower hR (Nat.le_trans HW0.out.size HB5.out.size)) (HA.out.below hb))
     clear hR hb
     refine hK.out _ _ ⟨pw_cell_below HB6.out (HB0.out.cell 0), pw_cell_below HB6.out (HB0.out.cell 2), pw_cell_below HB6.out (HB0.out.cell 3), pw_cell_below HB6.out (HB0.out.cell 4)⟩ (fun hHeld => ?_)
     clear hK K
     refine norm_ (a' := ?_) ?_ ?_; rotate_left; (show Act.put _ (some 20) _ = _; simp only [Act.put, Jq, Jr, Js]; rfl)
     refine pure_ (i := 12) (N := some 21) (v := ?_) (a' := ?_) (Jb 15 16383) rfl rfl (by kernel_rfl) (fun _ _ _ h => h) (Or.inl ⟨by rfl, ?_⟩) ?_ ?_
     rotate_left
     ·intro w'
      have hz := z39
      go_simp
      with_reducible rfl
     rotate_left
     ·simp only [Act.put, Jq, Jr, Js]
      rfl
     refine last_ (i := 14) (N := none) (Jb 15 32767) rfl rfl (by kernel_rfl) (by decide) (fun K hK => ?_)
     have hst := run_storeAt_mid (P := Try.prog) w11 g3 0 39 (qV (.slice Ba (d.acts.length + 1) ka) nil (.slice Br (d.roles.length + 1) kr) (.slice Bo (d.objs.length + 1) ko) (.slice Bg (d.grps.length + 1) kg) nil nil nil nil nil nil) (Stays.there (cs := #[.slice none 0 0, .slice none 0 0, .slice none 0 0, .slice none 0 0, .slice none 0 0, .slice none 0 0, .slice none 0 0, .slice none 0 0, .slice none 0 0, .slice none 0 0, .slice none 0 0]) HS3.out) i39 (by simp [qV, nil, Value.oneCell'])
     refine GDiffer.step_skip (w' := World.setCells w11 g3 0 (qV (.slice Ba (d.acts.length + 1) ka) nil (.slice Br (d.roles.length + 1) kr) (.slice Bo (d.objs.length + 1) ko) (.slice Bg (d.grps.length + 1) kg) nil nil nil nil nil nil).toList) rfl rfl (by first | (simp [execOp, Act.eval, hst]; done) | (show Sem.run Try.prog _ _ = _; simp only [execOp, Act.eval]; simp; rw [hst]; rfl)) ?_
     refine hK.out _ _ ?_
     clear hK K hst
     refine done_ (by kernel_rfl) ?_
     have hS3 := setCells_var (vs := (qV (.slice Ba (d.acts.length + 1) ka) nil (.slice Br (d.roles.length + 1) kr) (.slice Bo (d.objs.length + 1) ko) (.slice Bg (d.grps.length + 1) kg) nil nil nil nil nil nil)) HS3.out rfl
     have hbb := setCells_below HB6.out HLE.out (qV (.slice Ba (d.acts.length + 1) ka) nil (.slice Br (d.roles.length + 1) kr) (.slice Bo (d.objs.length + 1) ko) (.slice Bg (d.grps.length + 1) kg) nil nil nil nil nil nil).toList
     have hAL := HA.out.only (Only.sets HS3.out (qV (.slice Ba (d.acts.length + 1) ka) nil (.slice Br (d.roles.length + 1) kr) (.slice Bo (d.objs.length + 1) ko) (.slice Bg (d.grps.length + 1) kg) nil nil nil nil nil nil).toList) rfl
     have HF := jA (Rm.mk (g1 := w.heap.size) (gv := gv) (HB0.out.below hbb) (HV0.out.below hbb) hS3 hAL (below_then HW0.out HW0.out.size hbb) (by have := HG3.out; have := HGV.out; omega) (by have := HG3.out; have := HGV.out; omega))
     clear hS3 hbb hAL hHeld
     go_wp2
     go_meet
     exact ⟨g3, _, _, _, _, _, _, _, _, rfl, HG3, HF⟩
   ·refine GDiffer.step_run (w' := World.alloc w2 (.cells #[.slice none 0 0, .slice none 0 0, .slice none 0 0, .slice none 0 0, .slice none 0 0, .slice none 0 0, .slice none 0 0, .slice none 0 0, .slice none 0 0, .slice none 0 0, .slice none 0 0] 39)) (v := .pointer (some ⟨World.heap w2 |>.size, 0, none⟩)) rfl rfl (by have hz := z39; go_simp) ?_
    have hs3 : Stays (World.alloc w2 (.cells #[.slice none 0 0, .slice none 0 0, .slice none 0 0, .slice none 0 0, .slice none 0 0, .slice none 0 0, .slice none 0 0, .slice none 0 0, .slice none 0 0, .slice none 0 0, .slice none 0 0] 39)) (World.heap w2).size #[.slice none 0 0, .slice none 0 0, .slice none 0 0, .slice none 0 0, .slice none 0 0, .slice none 0 0, .slice none 0 0, .slice none 0 0, .slice none 0 0, .slice none 0 0, .slice none 0 0] 39 := heap_alloc_new w2 _
    have hb := below_alloc (Below.refl _ w2) (.cells #[.slice none 0 0, .slice none 0 0, .slice none 0 0, .slice none 0 0, .slice none 0 0, .slice none 0 0, .slice none 0 0, .slice none 0 0, .slice none 0 0, .slice none 0 0, .slice none 0 0] 39)
    have HB3 := jA (below_then HB2.out HB2.out.size hb)
    have hle : W0.heap.size ≤ (World.heap w2).size := HB2.out.size
    have HA := jA (HA.out.below hb)
    obtain ⟨W7, hW7⟩ : ∃ W7, W7 = World.alloc w2 (.cells #[.slice none 0 0, .slice none 0 0, .slice none 0 0, .slice none 0 0, .slice none 0 0, .slice none 0 0, .slice none 0 0, .slice none 0 0, .slice none 0 0, .slice none 0 0, .slice none 0 0] 39) := ⟨_, rfl⟩
    obtain ⟨g3, hg3⟩ : ∃ g3, g3 = (World.heap w2).size := ⟨_, rfl⟩
    rw [← hW7] at hs3 HB3 HA ⊢
    rw [← hg3] at hs3 hle ⊢
    have HS3 := jA hs3
    have HLE := jA hle
    have HG3 := jA (show gv < g3 by have := (Array.getElem?_eq_some_iff.1 HV0.out).1; omega)
    clear hs3 hb hle hW7 hg3
    refine hK.out _ _ ⟨pw_cell_below HB3.out (HB0.out.cell 0), pw_cell_below HB3.out (HB0.out.cell 2), pw_cell_below HB3.out (HB0.out.cell 3), pw_cell_below HB3.out (HB0.out.cell 4)⟩ (fun hHeld => ?_)
    clear hK K
    refine norm_ (a' := ?_) ?_ ?_; rotate_left; (show Act.put _ (some 3) _ = _; simp only [Act.put, Jq, Jr, Js]; rfl)
    refine one_ (i := 5) (N := some 14) (Jb 15 9983) rfl rfl (by kernel_rfl) (by decide) (fun K hK => ?_)
    refine goes_ Try.func45 (by kernel_rfl) rfl #[.slice A2 d.roles.length c2] (by rfl) rfl rfl (by (try simp only [List.map_toArray, List.map_cons, List.map_nil]); first | done | rfl) ?_
    refine (longer_go A2 c2 d.roles _ ((HP.out.below (below_then HW0.out HW0.out.size HB3.out)).h2) HP.out.l2 HK.out.roles).mono ?_
    rintro e w5 ⟨Br, kr, rfl, hR, hb⟩
    refine ⟨_, rfl, ?_⟩
    have HB4 := jA (below_then HB3.out HB3.out.size hb)
    have HS3 := jA (HS3.out.below hb)
    have HA := jA (All.cons (E := ent Kd.string 9 w.heap.size (.slice Br (d.roles.length + 1) kr) (d.roles ++ [sh])) (Kd.R_lower hR (Nat.le_trans HW0.out.size HB3.out.size)) (HA.out.below hb))
    clear hR hb
    refine hK.out _ _ ⟨pw_cell_below HB4.out (HB0.out.cell 0), pw_cell_below HB4.out (HB0.out.cell 2), pw_cell_below HB4.out (HB0.out.cell 3), pw_cell_below HB4.out (HB0.out.cell 4)⟩ (fun hHeld => ?_)
    clear hK K
    refine norm_ (a' := ?_) ?_ ?_; rotate_left; (show Act.put _ (some 14) _ = _; simp only [Act.put, Jq, Jr, Js]; rfl)
    refine one_ (i := 8) (N := some 17) (Jb 15 10239) rfl rfl (by kernel_rfl) (by decide) (fun K hK => ?_)
    refine goes_ Try.func45 (by kernel_rfl) rfl #[.slice A3 d.objs.length c3] (by rfl) rfl rfl (by (try simp only [List.map_toArray, List.map_cons, List.map_nil]); first | done | rfl) ?_
    refine (longer_go A3 c3 d.objs _ ((HP.out.below (below_then HW0.out HW0.out.size HB4.out)).h3) HP.out.l3 HK.out.objs).mono ?_
    rintro e w8 ⟨Bo, ko, rfl, hR, hb⟩
    refine ⟨_, rfl, ?_⟩
    have HB5 := jA (below_then HB4.out HB4.out.size hb)
    have HS3 := jA (HS3.out.below hb)
    have HA := jA (All.cons (E := ent Kd.string 9 w.heap.size (.slice Bo (d.objs.length + 1) ko) (d.objs ++ [sh])) (Kd.R_lower hR (Nat.le_trans HW0.out.size HB4.out.size)) (HA.out.below hb))
    clear hR hb
    refine hK.out _ _ ⟨pw_cell_below HB5.out (HB0.out.cell 0), pw_cell_below HB5.out (HB0.out.cell 2), pw_cell_below HB5.out (HB0.out.cell 3), pw_cell_below HB5.out (HB0.out.cell 4)⟩ (fun hHeld => ?_)
    clear hK K
    refine norm_ (a' := ?_) ?_ ?_; rotate_left; (show Act.put _ (some 17) _ = _; simp only [Act.put, Jq, Jr, Js]; rfl)
    refine one_ (i := 11) (N := some 20) (Jb 15 12287) rfl rfl (by kernel_rfl) (by decide) (fun K hK => ?_)
    refine goes_ Try.func45 (by kernel_rfl) rfl #[.slice A4 d.grps.length c4] (by rfl) rfl rfl (by (try simp only [List.map_toArray, List.map_cons, List.map_nil]); first | done | rfl) ?_
    refine (longer_go A4 c4 d.grps _ ((HP.out.below (below_then HW0.out HW0.out.size HB5.out)).h4) HP.out.l4 HK.out.grps).mono ?_
    rintro e w11 ⟨Bg, kg, rfl, hR, hb⟩
    refine ⟨_, rfl, ?_⟩
    have HB6 := jA (below_then HB5.out HB5.out.size hb)
    have HS3 := jA (HS3.out.below hb)
    have HA := jA (All.cons (E := ent Kd.string 9 w.heap.size (.slice Bg (d.grps.length + 1) kg) (d.grps ++ [sh])) (Kd.R_lower hR (Nat.le_trans HW0.out.size HB5.out.size)) (HA.out.below hb))
    clear hR hb
    refine hK.out _ _ ⟨pw_cell_below HB6.out (HB0.out.cell 0), pw_cell_below HB6.out (HB0.out.cell 2), pw_cell_below HB6.out (HB0.out.cell 3), pw_cell_below HB6.out (HB0.out.cell 4)⟩ (fun hHeld => ?_)
    clear hK K
    refine norm_ (a' := ?_) ?_ ?_; rotate_left; (show Act.put _ (some 20) _ = _; simp only [Act.put, Jq, Jr, Js]; rfl)
    refine pure_ (i := 12) (N := some 21) (v := ?_) (a' := ?_) (Jb 15 16383) rfl rfl (by kernel_rfl) (fun _ _ _ h => h) (Or.inl ⟨by rfl, ?_⟩) ?_ ?_
    rotate_left
    ·intro w'
     have hz := z39
     go_simp
     with_reducible rfl
    rotate_left
    ·simp only [Act.put, Jq, Jr, Js]
     rfl
    refine last_ (i := 14) (N := none) (Jb 15 32767) rfl rfl (by kernel_rfl) (by decide) (fun K hK => ?_)
    have hst := run_storeAt_mid (P := Try.prog) w11 g3 0 39 (qV (.slice Ba (d.acts.length + 1) ka) nil (.slice Br (d.roles.length + 1) kr) (.slice Bo (d.objs.length + 1) ko) (.slice Bg (d.grps.length + 1) kg) nil nil nil nil nil nil) (Stays.there (cs := #[.slice none 0 0, .slice none 0 0, .slice none 0 0, .slice none 0 0, .slice none 0 0, .slice none 0 0, .slice none 0 0, .slice none 0 0, .slice none 0 0, .slice none 0 0, .slice none 0 0]) HS3.out) i39 (by simp [qV, nil, Value.oneCell'])
    refine GDiffer.step_skip (w' := World.setCells w11 g3 0 (qV (.slice Ba (d.acts.length + 1) ka) nil (.slice Br (d.roles.length + 1) kr) (.slice Bo (d.objs.length + 1) ko) (.slice Bg (d.grps.length + 1) kg) nil nil nil nil nil nil).toList) rfl rfl (by first | (simp [execOp, Act.eval, hst]; done) | (show Sem.run Try.prog _ _ = _; simp only [execOp, Act.eval]; simp; rw [hst]; rfl)) ?_
    refine hK.out _ _ ?_
    clear hK K hst
    refine done_ (by kernel_rfl) ?_
    have hS3 := setCells_var (vs := (qV (.slice Ba (d.acts.length + 1) ka) nil (.slice Br (d.roles.length + 1) kr) (.slice Bo (d.objs.length + 1) ko) (.slice Bg (d.grps.length + 1) kg) nil nil nil nil nil nil)) HS3.out rfl
    have hbb := setCells_below HB6.out HLE.out (qV (.slice Ba (d.acts.length + 1) ka) nil (.slice Br (d.roles.length + 1) kr) (.slice Bo (d.objs.length + 1) ko) (.slice Bg (d.grps.length + 1) kg) nil nil nil nil nil nil).toList
    have hAL := HA.out.only (Only.sets HS3.out (qV (.slice Ba (d.acts.length + 1) ka) nil (.slice Br (d.roles.length + 1) kr) (.slice Bo (d.objs.length + 1) ko) (.slice Bg (d.grps.length + 1) kg) nil nil nil nil nil nil).toList) rfl
    have HF := jA (Rm.mk (g1 := w.heap.size) (gv := gv) (HB0.out.below hbb) (HV0.out.below hbb) hS3 hAL (below_then HW0.out HW0.out.size hbb) (by have := HG3.out; have := HGV.out; omega) (by have := HG3.out; have := HGV.out; omega))
    clear hS3 hbb hAL hHeld
    go_wp2
    go_meet
    exact ⟨g3, _, _, _, _, _, _, _, _, rfl, HG3, HF⟩
  ·refine GDiffer.step_run (w' := World.alloc W1 (.cells #[.slice none 0 0, .slice none 0 0, .slice none 0 0, .slice none 0 0, .slice none 0 0, .slice none 0 0, .slice none 0 0, .slice none 0 0, .slice none 0 0, .slice none 0 0, .slice none 0 0] 39)) (v := .pointer (some ⟨World.heap W1 |>.size, 0, none⟩)) rfl rfl (by have hz := z39; go_simp) ?_
   have hs3 : Stays (World.alloc W1 (.cells #[.slice none 0 0, .slice none 0 0, .slice none 0 0, .slice none 0 0, .slice none 0 0, .slice none 0 0, .slice none 0 0, .slice none 0 0, .slice none 0 0, .slice none 0 0, .slice none 0 0] 39)) (World.heap W1).size #[.slice none 0 0, .slice none 0 0, .slice none 0 0, .slice none 0 0, .slice none 0 0, .slice none 0 0, .slice none 0 0, .slice none 0 0, .slice none 0 0, .slice none 0 0, .slice none 0 0] 39 := heap_alloc_new W1 _
   have hb := below_alloc (Below.refl _ W1) (.cells #[.slice none 0 0, .slice none 0 0, .slice none 0 0, .slice none 0 0, .slice none 0 0, .slice none 0 0, .slice none 0 0, .slice none 0 0, .slice none 0 0, .slice none 0 0, .slice none 0 0] 39)
   have HB2 := jA (below_then HB1.out HB1.out.size hb)
   have hle : W0.heap.size ≤ (World.heap W1).size := HB1.out.size
   have HA := jA (HA.out.below hb)
   obtain ⟨W7, hW7⟩ : ∃ W7, W7 = World.alloc W1 (.cells #[.slice none 0 0, .slice none 0 0, .slice none 0 0, .slice none 0 0, .slice none 0 0, .slice none 0 0, .slice none 0 0, .slice none 0 0, .slice none 0 0, .slice none 0 0, .slice none 0 0] 39) := ⟨_, rfl⟩
   obtain ⟨g3, hg3⟩ : ∃ g3, g3 = (World.heap W1).size := ⟨_, rfl⟩
   rw [← hW7] at hs3 HB2 HA ⊢
   rw [← hg3] at hs3 hle ⊢
   have HS3 := jA hs3
   have HLE := jA hle
   have HG3 := jA (show gv < g3 by have := (Array.getElem?_eq_some_iff.1 HV0.out).1; omega)
   clear hs3 hb hle hW7 hg3
   refine hK.out _ _ ⟨pw_cell_below HB2.out (HB0.out.cell 0), pw_cell_below HB2.out (HB0.out.cell 2), pw_cell_below HB2.out (HB0.out.cell 3), pw_cell_below HB2.out (HB0.out.cell 4)⟩ (fun hHeld => ?_)
   clear hK K
   refine norm_ (a' := ?_) ?_ ?_; rotate_left; (show Act.put _ (some 3) _ = _; simp only [Act.put, Jq, Jr, Js]; rfl)
   refine one_ (i := 2) (N := some 11) (Jb 15 9951) rfl rfl (by kernel_rfl) (by decide) (fun K hK => ?_)
   refine goes_ Try.func45 (by kernel_rfl) rfl #[.slice A0 d.acts.length c0] (by rfl) rfl rfl (by (try simp only [List.map_toArray, List.map_cons, List.map_nil]); first | done | rfl) ?_
   refine (longer_go A0 c0 d.acts _ ((HP.out.below (below_then HW0.out HW0.out.size HB2.out)).h0) HP.out.l0 HK.out.acts).mono ?_
   rintro e w2 ⟨Ba, ka, rfl, hR, hb⟩
   refine ⟨_, rfl, ?_⟩
   have HB3 := jA (below_then HB2.out HB2.out.size hb)
   have HS3 := jA (HS3.out.below hb)
   have HA := jA (All.cons (E := ent Kd.string 9 w.heap.size (.slice Ba (d.acts.length + 1) ka) (d.acts ++ [sh])) (Kd.R_lower hR (Nat.le_trans HW0.out.size HB2.out.size)) (HA.out.below hb))
   clear hR hb
   refine hK.out _ _ ⟨pw_cell_below HB3.out (HB0.out.cell 0), pw_cell_below HB3.out (HB0.out.cell 2), pw_cell_below HB3.out (HB0.out.cell 3), pw_cell_below HB3.out (HB0.out.cell 4)⟩ (fun hHeld => ?_)
   clear hK K
   refine norm_ (a' := ?_) ?_ ?_; rotate_left; (show Act.put _ (some 11) _ = _; simp only [Act.put, Jq, Jr, Js]; rfl)
   refine one_ (i := 5) (N := some 14) (Jb 15 9983) rfl rfl (by kernel_rfl) (by decide) (fun K hK => ?_)
   refine goes_ Try.func45 (by kernel_rfl) rfl #[.slice A2 d.roles.length c2] (by rfl) rfl rfl (by (try simp only [List.map_toArray, List.map_cons, List.map_nil]); first | done | rfl) ?_
   refine (longer_go A2 c2 d.roles _ ((HP.out.below (below_then HW0.out HW0.out.size HB3.out)).h2) HP.out.l2 HK.out.roles).mono ?_
   rintro e w5 ⟨Br, kr, rfl, hR, hb⟩
   refine ⟨_, rfl, ?_⟩
   have HB4 := jA (below_then HB3.out HB3.out.size hb)
   have HS3 := jA (HS3.out.below hb)
   have HA := jA (All.cons (E := ent Kd.string 9 w.heap.size (.slice Br (d.roles.length + 1) kr) (d.roles ++ [sh])) (Kd.R_lower hR (Nat.le_trans HW0.out.size HB3.out.size)) (HA.out.below hb))
   clear hR hb
   refine hK.out _ _ ⟨pw_cell_below HB4.out (HB0.out.cell 0), pw_cell_below HB4.out (HB0.out.cell 2), pw_cell_below HB4.out (HB0.out.cell 3), pw_cell_below HB4.out (HB0.out.cell 4)⟩ (fun hHeld => ?_)
   clear hK K
   refine norm_ (a' := ?_) ?_ ?_; rotate_left; (show Act.put _ (some 14) _ = _; simp only [Act.put, Jq, Jr, Js]; rfl)
   refine one_ (i := 8) (N := some 17) (Jb 15 10239) rfl rfl (by kernel_rfl) (by decide) (fun K hK => ?_)
   refine goes_ Try.func45 (by kernel_rfl) rfl #[.slice A3 d.objs.length c3] (by rfl) rfl rfl (by (try simp only [List.map_toArray, List.map_cons, List.map_nil]); first | done | rfl) ?_
   refine (longer_go A3 c3 d.objs _ ((HP.out.below (below_then HW0.out HW0.out.size HB4.out)).h3) HP.out.l3 HK.out.objs).mono ?_
   rintro e w8 ⟨Bo, ko, rfl, hR, hb⟩
   refine ⟨_, rfl, ?_⟩
   have HB5 := jA (below_then HB4.out HB4.out.size hb)
   have HS3 := jA (HS3.out.below hb)
   have HA := jA (All.cons (E := ent Kd.string 9 w.heap.size (.slice Bo (d.objs.length + 1) ko) (d.objs ++ [sh])) (Kd.R_lower hR (Nat.le_trans HW0.out.size HB4.out.size)) (HA.out.below hb))
   clear hR hb
   refine hK.out _ _ ⟨pw_cell_below HB5.out (HB0.out.cell 0), pw_cell_below HB5.out (HB0.out.cell 2), pw_cell_below HB5.out (HB0.out.cell 3), pw_cell_below HB5.out (HB0.out.cell 4)⟩ (fun hHeld => ?_)
   clear hK K
   refine norm_ (a' := ?_) ?_ ?_; rotate_left; (show Act.put _ (some 17) _ = _; simp only [Act.put, Jq, Jr, Js]; rfl)
   refine one_ (i := 11) (N := some 20) (Jb 15 12287) rfl rfl (by kernel_rfl) (by decide) (fun K hK => ?_)
   refine goes_ Try.func45 (by kernel_rfl) rfl #[.slice A4 d.grps.length c4] (by rfl) rfl rfl (by (try simp only [List.map_toArray, List.map_cons, List.map_nil]); first | done | rfl) ?_
   refine (longer_go A4 c4 d.grps _ ((HP.out.below (below_then HW0.out HW0.out.size HB5.out)).h4) HP.out.l4 HK.out.grps).mono ?_
   rintro e w11 ⟨Bg, kg, rfl, hR, hb⟩
   refine ⟨_, rfl, ?_⟩
   have HB6 := jA (below_then HB5.out HB5.out.size hb)
   have HS3 := jA (HS3.out.below hb)
   have HA := jA (All.cons (E := ent Kd.string 9 w.heap.size (.slice Bg (d.grps.length + 1) kg) (d.grps ++ [sh])) (Kd.R_lower hR (Nat.le_trans HW0.out.size HB5.out.size)) (HA.out.below hb))
   clear hR hb
   refine hK.out _ _ ⟨pw_cell_below HB6.out (HB0.out.cell 0), pw_cell_below HB6.out (HB0.out.cell 2), pw_cell_below HB6.out (HB0.out.cell 3), pw_cell_below HB6.out (HB0.out.cell 4)⟩ (fun hHeld => ?_)
   clear hK K
   refine norm_ (a' := ?_) ?_ ?_; rotate_left; (show Act.put _ (some 20) _ = _; simp only [Act.put, Jq, Jr, Js]; rfl)
   refine pure_ (i := 12) (N := some 21) (v := ?_) (a' := ?_) (Jb 15 16383) rfl rfl (by kernel_rfl) (fun _ _ _ h => h) (Or.inl ⟨by rfl, ?_⟩) ?_ ?_
   rotate_left
   ·intro w'
    have hz := z39
    go_simp
    with_reducible rfl
   rotate_left
   ·simp only [Act.put, Jq, Jr, Js]
    rfl
   refine last_ (i := 14) (N := none) (Jb 15 32767) rfl rfl (by kernel_rfl) (by decide) (fun K hK => ?_)
   have hst := run_storeAt_mid (P := Try.prog) w11 g3 0 39 (qV (.slice Ba (d.acts.length + 1) ka) nil (.slice Br (d.roles.length + 1) kr) (.slice Bo (d.objs.length + 1) ko) (.slice Bg (d.grps.length + 1) kg) nil nil nil nil nil nil) (Stays.there (cs := #[.slice none 0 0, .slice none 0 0, .slice none 0 0, .slice none 0 0, .slice none 0 0, .slice none 0 0, .slice none 0 0, .slice none 0 0, .slice none 0 0, .slice none 0 0, .slice none 0 0]) HS3.out) i39 (by simp [qV, nil, Value.oneCell'])
   refine GDiffer.step_skip (w' := World.setCells w11 g3 0 (qV (.slice Ba (d.acts.length + 1) ka) nil (.slice Br (d.roles.length + 1) kr) (.slice Bo (d.objs.length + 1) ko) (.slice Bg (d.grps.length + 1) kg) nil nil nil nil nil nil).toList) rfl rfl (by first | (simp [execOp, Act.eval, hst]; done) | (show Sem.run Try.prog _ _ = _; simp only [execOp, Act.eval]; simp; rw [hst]; rfl)) ?_
   refine hK.out _ _ ?_
   clear hK K hst
   refine done_ (by kernel_rfl) ?_
   have hS3 := setCells_var (vs := (qV (.slice Ba (d.acts.length + 1) ka) nil (.slice Br (d.roles.length + 1) kr) (.slice Bo (d.objs.length + 1) ko) (.slice Bg (d.grps.length + 1) kg) nil nil nil nil nil nil)) HS3.out rfl
   have hbb := setCells_below HB6.out HLE.out (qV (.slice Ba (d.acts.length + 1) ka) nil (.slice Br (d.roles.length + 1) kr) (.slice Bo (d.objs.length + 1) ko) (.slice Bg (d.grps.length + 1) kg) nil nil nil nil nil nil).toList
   have hAL := HA.out.only (Only.sets HS3.out (qV (.slice Ba (d.acts.length + 1) ka) nil (.slice Br (d.roles.length + 1) kr) (.slice Bo (d.objs.length + 1) ko) (.slice Bg (d.grps.length + 1) kg) nil nil nil nil nil nil).toList) rfl
   have HF := jA (Rm.mk (g1 := w.heap.size) (gv := gv) (HB0.out.below hbb) (HV0.out.below hbb) hS3 hAL (below_then HW0.out HW0.out.size hbb) (by have := HG3.out; have := HGV.out; omega) (by have := HG3.out; have := HGV.out; omega))
   clear hS3 hbb hAL hHeld
   go_wp2
   go_meet
   exact ⟨g3, _, _, _, _, _, _, _, _, rfl, HG3, HF⟩
 case rest =>
  obtain ⟨g3, Ba, ka, Br, kr, Bo, ko, Bg, kg, rfl, HG3, HT⟩ := hcut
  have xf1 := HT.out.f.cell 1
  have xp1 := HT.out.box.cell 1
  simp only [qV, Jt, Ju, Jv] at xf1 xp1
  have HLm := jA (show (([] : List S54).length + d.subs.length) * 24 ≤ 140737488355328 by have h := HK.out.subs; simp only [List.length_nil]; omega)
  go_upto_region 3 with ((with_reducible refine gate_builtin (b := .append) (xs := #[.tmp 23, .tmp 25]) rfl ?_); at_builtin; refine Kd.R_append_rows k54 (w0 := w) w.heap.size rfl (.tmp 23) (.tmp 25) 34 54 (.agg #[(.string ⟨#[]⟩), (.float .f64 0)]) 24 rfl Try.underlying34 info54 rfl (by decide) (by decide) nil [] d.subs A1 d.subs.length c1 (fun _ => True) (fun _ => False) rfl rfl (Kd.R_nil _ _ _ _ (fun _ => True)) (HP.out.below HT.out.below).h1 (fun _ _ h => h) (fun _ h => h.elim) (fun _ _ => trivial) HT.out.below HT.out.below.size HLm.out ?_; intro v1 w1 hR1 _ hg1 _; obtain ⟨B1, k1, hv1⟩ := Kd.R_slice hR1; rw [List.nil_append] at hR1 hv1; subst hv1; have HT2 := jA ((HT.out.app (t := 54) hg1 (fun k hk => by simp [Value.ownBlock] at hk) (fun k hk => by simp [Value.ownBlock] at hk) (by decide) (by decide) rfl).add (E := ent k54 54 w.heap.size (.slice B1 d.subs.length k1) d.subs) hR1); have x_ := HT2.out.f.cell 1; have y_ := blk_frozen HT2.out.f 1; simp only [qV, Jt, Ju, Jv] at x_; clear hR1 hg1)
  clear HLm xp1
  have hT := HT2.out.set 1 (.slice B1 d.subs.length k1) (by have := HG3.out; omega) rfl
  clear HT HT2 x_ y_ xf1
  generalize World.setCell w1 ⟨g3, 1, none⟩ (.slice B1 d.subs.length k1) = wc at hT ⊢
  have HT := jA hT
  clear hT
  have xf1 := HT.out.f.cell 1
  simp only [qV, Jt, Ju, Jv] at xf1
  have HLm := jA (show (d.subs.length + 1) * 24 ≤ 140737488355328 by have h := HK.out.subs; omega)
  have HR1 := jA (HT.out.all.get 0 rfl : Kd.R k54 54 wc w.heap.size (fun _ => True) (.slice B1 d.subs.length k1) d.subs)
  have HT1 := jA HT.out.drop
  go_upto_region 4 with ((with_reducible refine gate_builtin (b := .append) (xs := #[.tmp 29, .tmp 31]) rfl ?_); at_builtin; refine Kd.R_append k54 (w0 := w) w.heap.size rfl (.tmp 29) (.tmp 31) 34 54 (.agg #[(.string ⟨#[]⟩), (.float .f64 0)]) 24 rfl Try.underlying34 info54 rfl (by decide) (by decide) (.slice B1 d.subs.length k1) d.subs (⟨sh, 0⟩ : S54) [.string sh, .float .f64 0] (fun _ => True) (fun _ => False) rfl rfl (k54_mkM _ _ _ _) (fun _ h => h.elim) (fun _ _ => trivial) HR1.out HT.out.below HT.out.below.size HLm.out ?_; intro v1 w1 hR1 _ hg1 _; obtain ⟨C1, j1, hv1⟩ := Kd.R_slice hR1; rw [List.length_append, List.length_singleton] at hv1; subst hv1; have HT2 := jA ((HT1.out.app (t := 54) hg1 (Kd.R_typed HR1.out) (Kd.R_base HR1.out) (by decide) (by decide) rfl).add (E := ent k54 54 w.heap.size (.slice C1 (d.subs.length + 1) j1) (d.subs ++ ([⟨sh, 0⟩] : List S54))) hR1); have x_ := HT2.out.f.cell 1; have y_ := blk_frozen HT2.out.f 1; simp only [qV, Jt, Ju, Jv] at x_; clear hR1 hg1)
  clear HLm HR1 HT1
  have hT := HT2.out.set 1 (.slice C1 (d.subs.length + 1) j1) (by have := HG3.out; omega) rfl
  clear HT HT2 x_ y_ xf1
  generalize World.setCell w1 ⟨g3, 1, none⟩ (.slice C1 (d.subs.length + 1) j1) = wc at hT ⊢
  have HT := jA hT
  clear hT
  have xf5 := HT.out.f.cell 5
  have xp5 := HT.out.box.cell 5
  simp only [qV, Jt, Ju, Jv] at xf5 xp5
  go_upto_region 5 with (go_at_call 46; ((with_reducible refine (pairs_go A5 c5 d.mem _ (HP.out.below HT.out.below).h5 HP.out.l5 HK.out.mem).mono ?_); rintro e w1 ⟨B5, k5, rfl, hR1, hb1⟩; have HT2 := jA ((HT.out.move hb1).add (E := ent k108 108 w.heap.size (.slice B5 (d.mem.length + 1) k5) (d.mem ++ ([⟨sh, e0⟩] : List S108))) (Kd.R_lower hR1 HT.out.below.size)); have x_ := HT2.out.f.cell 5; have y_ := blk_frozen HT2.out.f 5; simp only [qV, Jt, Ju, Jv] at x_; clear hR1 hb1))
  clear xp5
  have hT := HT2.out.set 5 (.slice B5 (d.mem.length + 1) k5) (by have := HG3.out; omega) rfl
  clear HT HT2 x_ y_ xf5
  generalize World.setCell w1 ⟨g3, 5, none⟩ (.slice B5 (d.mem.length + 1) k5) = wc at hT ⊢
  have HT := jA hT
  clear hT
  have xf6 := HT.out.f.cell 6
  have xp6 := HT.out.box.cell 6
  simp only [qV, Jt, Ju, Jv] at xf6 xp6
  go_upto_region 6 with (go_at_call 46; ((with_reducible refine (pairs_go A6 c6 d.inh _ (HP.out.below HT.out.below).h6 HP.out.l6 HK.out.inh).mono ?_); rintro e w1 ⟨B6, k6, rfl, hR1, hb1⟩; have HT2 := jA ((HT.out.move hb1).add (E := ent k108 108 w.heap.size (.slice B6 (d.inh.length + 1) k6) (d.inh ++ ([⟨sh, e0⟩] : List S108))) (Kd.R_lower hR1 HT.out.below.size)); have x_ := HT2.out.f.cell 6; have y_ := blk_frozen HT2.out.f 6; simp only [qV, Jt, Ju, Jv] at x_; clear hR1 hb1))
  clear xp6
  have hT := HT2.out.set 6 (.slice B6 (d.inh.length + 1) k6) (by have := HG3.out; omega) rfl
  clear HT HT2 x_ y_ xf6
  generalize World.setCell w1 ⟨g3, 6, none⟩ (.slice B6 (d.inh.length + 1) k6) = wc at hT ⊢
  have HT := jA hT
  clear hT
  have xf7 := HT.out.f.cell 7
  have xp7 := HT.out.box.cell 7
  simp only [qV, Jt, Ju, Jv] at xf7 xp7
  go_upto_region 7 with (go_at_call 46; ((with_reducible refine (pairs_go A7 c7 d.par _ (HP.out.below HT.out.below).h7 HP.out.l7 HK.out.par).mono ?_); rintro e w1 ⟨B7, k7, rfl, hR1, hb1⟩; have HT2 := jA ((HT.out.move hb1).add (E := ent k108 108 w.heap.size (.slice B7 (d.par.length + 1) k7) (d.par ++ ([⟨sh, e0⟩] : List S108))) (Kd.R_lower hR1 HT.out.below.size)); have x_ := HT2.out.f.cell 7; have y_ := blk_frozen HT2.out.f 7; simp only [qV, Jt, Ju, Jv] at x_; clear hR1 hb1))
  clear xp7
  have hT := HT2.out.set 7 (.slice B7 (d.par.length + 1) k7) (by have := HG3.out; omega) rfl
  clear HT HT2 x_ y_ xf7
  generalize World.setCell w1 ⟨g3, 7, none⟩ (.slice B7 (d.par.length + 1) k7) = wc at hT ⊢
  have HT := jA hT
  clear hT
  have xf8 := HT.out.f.cell 8
  have xp8 := HT.out.box.cell 8
  simp only [qV, Jt, Ju, Jv] at xf8 xp8
  go_upto_region 8 with (go_at_call 46; ((with_reducible refine (pairs_go A8 c8 d.wit _ (HP.out.below HT.out.below).h8 HP.out.l8 HK.out.wit).mono ?_); rintro e w1 ⟨B8, k8, rfl, hR1, hb1⟩; have HT2 := jA ((HT.out.move hb1).add (E := ent k108 108 w.heap.size (.slice B8 (d.wit.length + 1) k8) (d.wit ++ ([⟨sh, e0⟩] : List S108))) (Kd.R_lower hR1 HT.out.below.size)); have x_ := HT2.out.f.cell 8; have y_ := blk_frozen HT2.out.f 8; simp only [qV, Jt, Ju, Jv] at x_; clear hR1 hb1))
  clear xp8
  have hT := HT2.out.set 8 (.slice B8 (d.wit.length + 1) k8) (by have := HG3.out; omega) rfl
  clear HT HT2 x_ y_ xf8
  generalize World.setCell w1 ⟨g3, 8, none⟩ (.slice B8 (d.wit.length + 1) k8) = wc at hT ⊢
  have HT := jA hT
  clear hT
  have xp9 := HT.out.box.cell 9
  simp only [qV, Jt, Ju, Jv] at xp9
  go_upto_region 10 with fail
  clear xp9
  go_loopw [4, 5] (fun u4 u5 wr => ∃ (i : Nat) (T : List TR) (v9 : Value), i ≤ d.rules.length ∧ u5 = .int .i64 i ∧ Aside0 (T.map (fun x => x.1) = d.rules.take i) ∧ Aside0 (Rm w w.heap.size gv g3 #[.slice A0 d.acts.length c0, .slice A1 d.subs.length c1, .slice A2 d.roles.length c2, .slice A3 d.objs.length c3, .slice A4 d.grps.length c4, .slice A5 d.mem.length c5, .slice A6 d.inh.length c6, .slice A7 d.par.length c7, .slice A8 d.wit.length c8, .slice A9 d.rules.length c9, .slice A10 d.exc.length c10] #[.slice none 0 0, .slice none 0 0, .slice none 0 0, .slice none 0 0, .slice none 0 0, .slice none 0 0, .slice none 0 0, .slice none 0 0, .slice none 0 0, .slice none 0 0, .slice none 0 0, .slice none 0 0, .slice none 0 0, .slice none 0 0, .slice none 0 0, .slice none 0 0, .slice none 0 0, .slice none 0 0, .slice none 0 0, .slice none 0 0, .slice none 0 0, .slice none 0 0, .slice none 0 0] (qV (.slice Ba (d.acts.length + 1) ka) (.slice C1 (d.subs.length + 1) j1) (.slice Br (d.roles.length + 1) kr) (.slice Bo (d.objs.length + 1) ko) (.slice Bg (d.grps.length + 1) kg) (.slice B5 (d.mem.length + 1) k5) (.slice B6 (d.inh.length + 1) k6) (.slice B7 (d.par.length + 1) k7) (.slice B8 (d.wit.length + 1) k8) v9 nil) [ent (Kd.raw 6) 78 w.heap.size v9 (T.map rcell), ent (Kd.raw 1) 22 w.heap.size u4 (T.map lcell), entEach w.heap.size T, ent k108 108 w.heap.size (.slice B8 (d.wit.length + 1) k8) (d.wit ++ ([⟨sh, e0⟩] : List S108)), ent k108 108 w.heap.size (.slice B7 (d.par.length + 1) k7) (d.par ++ ([⟨sh, e0⟩] : List S108)), ent k108 108 w.heap.size (.slice B6 (d.inh.length + 1) k6) (d.inh ++ ([⟨sh, e0⟩] : List S108)), ent k108 108 w.heap.size (.slice B5 (d.mem.length + 1) k5) (d.mem ++ ([⟨sh, e0⟩] : List S108)), ent k54 54 w.heap.size (.slice C1 (d.subs.length + 1) j1) (d.subs ++ ([⟨sh, 0⟩] : List S54)), ent Kd.string 9 w.heap.size (.slice Bg (d.grps.length + 1) kg) (d.grps ++ [sh]), ent Kd.string 9 w.heap.size (.slice Bo (d.objs.length + 1) ko) (d.objs ++ [sh]), ent Kd.string 9 w.heap.size (.slice Br (d.roles.length + 1) kr) (d.roles ++ [sh]), ent Kd.string 9 w.heap.size (.slice Ba (d.acts.length + 1) ka) (d.acts ++ [sh])] wr)) (fun _ u5 _ => d.rules.length - (intOf u5).toNat)
  case atStart => exact ⟨0, [], nil, by omega, rfl, ⟨rfl⟩, ⟨((HT.out.add (E := entEach w.heap.size []) (fun x hx => by simp at hx)).add (E := ent (Kd.raw 1) 22 w.heap.size nil []) (Kd.R_nil _ _ _ _ _)).add (E := ent (Kd.raw 6) 78 w.heap.size nil []) (Kd.R_nil _ _ _ _ _)⟩⟩
  case round =>
   clear HT
   obtain ⟨i, T, v9, hi, rfl, HTM, HT⟩ := hrel
   obtain ⟨Bv, kv, hv9⟩ := Kd.R_slice (HT.out.all.get 0 rfl : Kd.R (Kd.raw 6) 78 wr w.heap.size (fun _ => True) v9 (T.map rcell))
   obtain ⟨nv, Zg⟩ : ∃ nv, nv = (T.map rcell).length := ⟨_, rfl⟩
   rw [← Zg] at hv9
   subst hv9
   clear Zg
   have xp9 := HT.out.box.cell 9
   simp only [qV, Jt, Ju, Jv] at xp9
   by_cases hlt : i < d.rules.length
   ·have hlt' : ((i : Int) < d.rules.length) := by omega
    have hTl : T.length = i := by have h := congrArg List.length HTM.out; rw [List.length_map, List.length_take] at h; omega
    obtain ⟨ad, Ar, cr, rfl, y0, y1, y2, y3, y4, y5, hrc, hrC⟩ := at_T78 (show Kd.C k78 wr A9 d.rules.length d.rules from (HP.out.below HT.out.below).h9) (i : Int) (by omega) (by omega)
    have hq : rd_T78 d.rules (i : Int) = d.rules[i] := by simp [rd_T78, List.getD_eq_getElem?_getD, hlt]
    rw [hq] at y0 y1 y2 y3 y4 y5 hrc hrC
    have hlr := HK.out.each d.rules[i] (List.getElem_mem hlt)
    obtain ⟨r, hrr⟩ : ∃ r, r = d.rules[i] := ⟨_, rfl⟩
    have htk : d.rules.take (i + 1) = d.rules.take i ++ [r] := by rw [hrr]; exact List.take_succ_eq_append_getElem hlt
    rw [← hrr] at y0 y1 y2 y3 y4 y5 hrc hrC hlr
    simp only [Int.toNat_natCast] at y0 y1 y2 y3 y4 y5
    have HTK := jA htk
    have HRC := jA hrc
    have HRR := jA hrC
    have HLR := jA hlr
    have HTL := jA hTl
    clear hq hrr htk hrc hrC hlr hTl
    go_upto_region 13 with (first | ((with_reducible refine gate_dst (N := 6) rfl ?_); refine wpList_alloc_store rfl rfl 78 6 (.tmp 61) rfl rfl rfl #[.bool false, .string ⟨#[]⟩, .string ⟨#[]⟩, .slice none 0 0, .int .i8 0, .float .f64 0] #[.bool r.f0, .string r.f1, .string r.f2, .slice Ar r.f3.length cr, .int .i8 r.f4, .float .f64 r.f5] _ (z78 _) rfl (by kernel_rfl) rfl (by simp [Value.oneCell']) rfl rfl ?_))
    clear y0 y1 y2 y3 y4 y5 xp9
    have hb6 := below_alloc (Below.refl _ wr) (.cells #[.bool r.f0, .string r.f1, .string r.f2, .slice Ar r.f3.length cr, .int .i8 r.f4, .float .f64 r.f5] 78)
    have hg6 : Stays (wr.alloc (.cells #[.bool r.f0, .string r.f1, .string r.f2, .slice Ar r.f3.length cr, .int .i8 r.f4, .float .f64 r.f5] 78)) wr.heap.size #[.bool r.f0, .string r.f1, .string r.f2, .slice Ar r.f3.length cr, .int .i8 r.f4, .float .f64 r.f5] 78 := heap_alloc_new wr _
    have Zh : Kd.R (Kd.raw 6) 78 wr w.heap.size (fun _ => True) (.slice Bv nv kv) (T.map rcell) := HT.out.all.get 0 rfl
    have hoff : Kd.R (Kd.raw 6) 78 (wr.alloc (.cells #[.bool r.f0, .string r.f1, .string r.f2, .slice Ar r.f3.length cr, .int .i8 r.f4, .float .f64 r.f5] 78)) w.heap.size (fun k => k ≠ wr.heap.size) (.slice Bv nv kv) (T.map rcell) := Kd.R_below (Kd.R_mono (Kd.R_bound Zh) (fun k hk => by have := hk.2.2.1; omega)) hb6
    have hT := (HT.out.drop.move hb6).add (E := entO (Kd.raw 6) 78 w.heap.size (fun k => k ≠ wr.heap.size) (.slice Bv nv kv) (T.map rcell)) hoff
    have hC6 := Kd.C_below HRR.out hb6
    have hs6 := HT.out.below.size
    have Ze : g3 < wr.heap.size := (Array.getElem?_eq_some_iff.1 HT.out.f).1
    have hnv : gv < wr.heap.size := (Array.getElem?_eq_some_iff.1 HT.out.res).1
    have hnb : w.heap.size < wr.heap.size := (Array.getElem?_eq_some_iff.1 HT.out.box).1
    clear HT HRR Zh hoff hb6
    obtain ⟨g6, hg6e⟩ : ∃ g6, g6 = wr.heap.size := ⟨_, rfl⟩
    rw [← hg6e] at hg6 hT hs6 Ze hnv hnb ⊢
    have HN6 := jA (And.intro Ze (And.intro hnv hnb))
    generalize wr.alloc (.cells #[.bool r.f0, .string r.f1, .string r.f2, .slice Ar r.f3.length cr, .int .i8 r.f4, .float .f64 r.f5] 78) = W6 at hg6 hT hC6 ⊢
    have HT := jA hT
    have HG6 := jA hg6
    have HC6 := jA hC6
    have xg3 := HG6.out.cell 3
    simp only [Jt, Ju, Jv] at xg3
    clear hg6 hT hC6 hs6 hg6e Ze hnv hnb
    go_upto_region 14 with (go_at_call 45; ((with_reducible refine (longer_go Ar cr r.f3 _ HC6.out HRC.out HLR.out).mono ?_); rintro e W7 ⟨Aa, ca, rfl, hRa, hb7⟩; have HG7 := jA (HG6.out.below hb7); have HRa := jA (Kd.R_lower hRa HT.out.below.size); have HT7 := jA (HT.out.move hb7); clear hRa hb7))
    clear HT HG6 HC6 xg3
    have h51 : Kd.R (Kd.raw 6) 78 W7 w.heap.size (fun k => k ≠ g6) (.slice Bv nv kv) (T.map rcell) := HT7.out.all.get 0 rfl
    have h22 : Kd.R (Kd.raw 1) 22 W7 w.heap.size (fun _ => True) u4 (T.map lcell) := HT7.out.all.get 1 rfl
    have Zi := jA h51
    have Zb := jA h22
    have HTr := jA HT7.out.drop.drop
    have HLm := jA (show ((T.map lcell).length + 1) * 24 ≤ 140737488355328 by have h1 := HTL.out; have h2 := HK.out.rules; rw [List.length_map]; omega)
    clear h51 h22
    go_upto_region 15 with ((with_reducible refine gate_builtin (b := .append) (xs := #[.tmp 65, .tmp 67]) rfl ?_); at_builtin; refine Kd.R_append (Kd.raw 1) (w0 := w) w.heap.size rfl (.tmp 65) (.tmp 67) 41 22 (.slice none 0 0) 24 rfl Try.underlying41 info22 rfl (by decide) (by decide) u4 (T.map lcell) [.slice Aa (r.f3.length + 1) ca] [.slice Aa (r.f3.length + 1) ca] (fun _ => True) (fun _ => False) rfl rfl ⟨rfl, rfl, by simp [Value.oneCell']⟩ (fun _ h => h.elim) (fun _ _ => trivial) Zb.out HTr.out.below HTr.out.below.size HLm.out ?_; intro vl W8 hR8 _ hg8 _; have HO8 := jA (Only.grown hg8 (Kd.R_typed Zb.out)); have HT8 := jA (HTr.out.app (t := 22) hg8 (Kd.R_typed Zb.out) (Kd.R_base Zb.out) (by decide) (by decide) rfl); have HL8 := jA hR8; clear hR8 hg8)
    have H51 := jA (R_only Zi.out HO8.out rfl : Kd.R (Kd.raw 6) 78 W8 w.heap.size (fun k => k ≠ g6) (.slice Bv nv kv) (T.map rcell))
    have HA8 := jA (R_only HRa.out HO8.out rfl : Kd.R Kd.string 9 W8 w.heap.size (fun _ => True) (.slice Aa (r.f3.length + 1) ca) (r.f3 ++ [sh]))
    have HG8 := jA (HO8.out.stays HG7.out (by decide))
    have xg3 := HG8.out.cell 3
    have yg3 := blk_frozen HG8.out 3
    simp only [Jt, Ju, Jv] at xg3
    have hcap : r.f3.length + 1 ≤ ca := (Kd.R_reads' HA8.out).2.1
    have Zc : (r.f3.length : Int) ≤ ca := by omega
    have hwr : wrap64 ((r.f3.length : Nat) : Int) = r.f3.length := by have := HLR.out; unfold wrap64; omega
    clear HT7 Zi Zb HTr HLm HO8 HRa HG7
    go_upto_region 16 with fail
    clear xg3 yg3 hcap Zc hwr
    have hn1 : w.heap.size ≠ g6 := by have := HN6.out.2.2; omega
    have hT9 := HT8.out.var (j := 3) HG8.out (.slice Aa r.f3.length ca) hn1 (by have := HN6.out.2.1; omega) (by have := HN6.out.1; omega) (by have := HN6.out.2.2; omega) rfl
    have hL9 : Kd.R (Kd.raw 1) 22 (W8.setCell ⟨g6, 3, none⟩ (.slice Aa r.f3.length ca)) w.heap.size (fun _ => True) vl (T.map lcell ++ ([[Value.slice Aa (r.f3.length + 1) ca]] : List (List Value))) := R_only HL8.out (Only.set HG8.out _) rfl
    have hA9 : Kd.R Kd.string 9 (W8.setCell ⟨g6, 3, none⟩ (.slice Aa r.f3.length ca)) w.heap.size (fun _ => True) (.slice Aa (r.f3.length + 1) ca) (r.f3 ++ [sh]) := R_only HA8.out (Only.set HG8.out _) rfl
    have h59 : Kd.R (Kd.raw 6) 78 (W8.setCell ⟨g6, 3, none⟩ (.slice Aa r.f3.length ca)) w.heap.size (fun k => k ≠ g6) (.slice Bv nv kv) (T.map rcell) := Kd.R_far H51.out (p := ⟨g6, 3, none⟩) (fun k hk => hk) _
    have hG9 := stays_set HG8.out 3 (.slice Aa r.f3.length ca)
    simp only [Jq, Jr, Js] at hG9
    clear HT8 HL8 H51 HA8 HG8 hn1
    generalize W8.setCell ⟨g6, 3, none⟩ (.slice Aa r.f3.length ca) = W9 at hT9 hL9 hA9 h59 hG9 ⊢
    have HT9 := jA hT9
    have HL9 := jA hL9
    have HA9 := jA hA9
    have H59 := jA (Kd.R_mono h59 (fun _ _ => trivial) : Kd.R (Kd.raw 6) 78 W9 w.heap.size (fun _ => True) (.slice Bv nv kv) (T.map rcell))
    have HG9 := jA hG9
    clear hT9 hL9 hA9 h59 hG9
    have xf9 := HT9.out.f.cell 9
    simp only [qV, Jt, Ju, Jv] at xf9
    have HLm := jA (show ((T.map rcell).length + 1) * 80 ≤ 140737488355328 by have h1 := HTL.out; have h2 := HK.out.rules; rw [List.length_map]; omega)
    go_wp2_with (first
     | ((with_reducible refine gate_dst (N := 77) rfl ?_); refine wpList_load_blk rfl 78 (.tmp 6) rfl g6 ?hx1 #[.bool r.f0, .string r.f1, .string r.f2, .slice Aa r.f3.length ca, .int .i8 r.f4, .float .f64 r.f5] 78 HG9.out _ Try.underlying78 rfl (by kernel_rfl) ?_; (case hx1 => rfl))
     | ((with_reducible refine gate_builtin (b := .append) (xs := #[.tmp 76, .tmp 78]) rfl ?_); at_builtin; refine Kd.R_append (Kd.raw 6) (w0 := w) w.heap.size rfl (.tmp 76) (.tmp 78) 36 78 _ 80 rfl Try.underlying36 info78 rfl (by decide) (by decide) (.slice Bv nv kv) (T.map rcell) [.bool r.f0, .string r.f1, .string r.f2, .slice Aa r.f3.length ca, .int .i8 r.f4, .float .f64 r.f5] [.bool r.f0, .string r.f1, .string r.f2, .slice Aa r.f3.length ca, .int .i8 r.f4, .float .f64 r.f5] (fun _ => True) (fun _ => False) rfl rfl ⟨rfl, rfl, by simp [Value.oneCell']⟩ (fun _ h => h.elim) (fun _ _ => trivial) H59.out HT9.out.below HT9.out.below.size HLm.out ?_; intro vn Wn hRn _ hgn _; obtain ⟨Bn, kn, hvn⟩ := Kd.R_slice hRn; obtain ⟨nn, hnn⟩ : ∃ nn, nn = (T.map rcell ++ ([[Value.bool r.f0, .string r.f1, .string r.f2, .slice Aa r.f3.length ca, .int .i8 r.f4, .float .f64 r.f5]] : List (List Value))).length := ⟨_, rfl⟩; rw [← hnn] at hvn; subst hvn; have HOn := jA (Only.grown hgn (Kd.R_typed H59.out)); have HTn := jA (HT9.out.app (t := 78) hgn (Kd.R_typed H59.out) (Kd.R_base H59.out) (by decide) (by decide) rfl); have HRn := jA hRn; have xn9 := HTn.out.f.cell 9; have yn9 := blk_frozen HTn.out.f 9; simp only [qV, Jt, Ju, Jv] at xn9; clear hRn hgn hnn xf9))
    clear xn9 yn9
    have hLn : Kd.R (Kd.raw 1) 22 Wn w.heap.size (fun _ => True) vl (T.map lcell ++ ([[Value.slice Aa (r.f3.length + 1) ca]] : List (List Value))) := R_only HL9.out HOn.out rfl
    have hAn : Kd.R Kd.string 9 Wn w.heap.size (fun _ => True) (.slice Aa (r.f3.length + 1) ca) (r.f3 ++ [sh]) := R_only HA9.out HOn.out rfl
    have hEn : (entEach w.heap.size (T ++ [(r, Aa, ca)])).P Wn := fun x hx => by
     rcases List.mem_append.1 hx with h | h
     ·exact (HTn.out.all.get 0 (E := entEach w.heap.size T) rfl) x h
     ·rw [List.mem_singleton.1 h]; exact hAn
    have hRn' : Kd.R (Kd.raw 6) 78 Wn w.heap.size (fun _ => True) (.slice Bn nn kn) ((T ++ [(r, Aa, ca)]).map rcell) := by rw [List.map_append]; exact HRn.out
    have hLn' : Kd.R (Kd.raw 1) 22 Wn w.heap.size (fun _ => True) vl ((T ++ [(r, Aa, ca)]).map lcell) := by rw [List.map_append]; exact hLn
    have hF := (((HTn.out.drop.add hEn).add (E := ent (Kd.raw 1) 22 w.heap.size vl ((T ++ [(r, Aa, ca)]).map lcell)) hLn').add (E := ent (Kd.raw 6) 78 w.heap.size (.slice Bn nn kn) ((T ++ [(r, Aa, ca)]).map rcell)) hRn').set 9 (.slice Bn nn kn) (by have := HG3.out; omega) rfl
    have HTF := jA (show Aside0 (Rm w w.heap.size gv g3 _ _ _ _ _) from ⟨hF⟩)
    have hTM : (T ++ [(r, Aa, ca)]).map (fun x => x.1) = d.rules.take (i + 1) := by rw [List.map_append, HTM.out, HTK.out]; rfl
    clear hLn hAn hEn hRn' hLn' hF
    exact round_end hlt (by have := HK.out.rules; omega) (fun hq => ⟨i + 1, T ++ [(r, Aa, ca)], _, by omega, hq, ⟨hTM⟩, HTF.out⟩)
   ·have hil : i = d.rules.length := by omega
    have hlt' : ¬ ((i : Int) < d.rules.length) := by omega
    have hTM : T.map (fun x => x.1) = d.rules := by rw [HTM.out, hil]; exact List.take_length
    have HTM := jA hTM
    clear hTM hlt hi
    go_upto_region 17 with fail
    clear xp9 hil hlt'
    obtain ⟨Bl, kl, hu4⟩ := Kd.R_slice (HT.out.all.get 1 rfl : Kd.R (Kd.raw 1) 22 wr w.heap.size (fun _ => True) u4 (T.map lcell))
    have Zj : T.length = d.rules.length := by rw [← HTM.out, List.length_map]
    rw [List.length_map, Zj] at hu4
    subst hu4
    clear Zj
    have hTl : T.length = d.rules.length := by rw [← HTM.out, List.length_map]
    have HTL := jA hTl
    have H51 := jA (HT.out.all.get 0 rfl : Kd.R (Kd.raw 6) 78 wr w.heap.size (fun _ => True) (.slice Bv nv kv) (T.map rcell))
    have HT1 := jA HT.out.drop
    have HLm := jA (show ((T.map rcell).length + 1) * 80 ≤ 140737488355328 by have h2 := HK.out.rules; rw [List.length_map]; omega)
    clear hTl
    have xf9 := HT.out.f.cell 9
    simp only [qV, Jt, Ju, Jv] at xf9
    go_upto_region 18 with ((with_reducible refine gate_builtin (b := .append) (xs := #[.tmp 82, .tmp 84]) rfl ?_); at_builtin; refine Kd.R_append (Kd.raw 6) (w0 := w) w.heap.size rfl (.tmp 82) (.tmp 84) 36 78 _ 80 rfl Try.underlying36 info78 rfl (by decide) (by decide) (.slice Bv nv kv) (T.map rcell) [.bool false, .string sh, .string e0, .slice none 0 0, .int .i8 0, .float .f64 0] [.bool false, .string sh, .string e0, .slice none 0 0, .int .i8 0, .float .f64 0] (fun _ => True) (fun _ => False) rfl rfl ⟨rfl, rfl, by simp [Value.oneCell']⟩ (fun _ h => h.elim) (fun _ _ => trivial) H51.out HT.out.below HT.out.below.size HLm.out ?_; intro v9 w1 hR1 _ hg1 _; obtain ⟨C9, j9, hv1⟩ := Kd.R_slice hR1; rw [List.length_append, List.length_singleton, List.length_map, HTL.out] at hv1; subst hv1; have HT2 := jA ((HT1.out.app (t := 78) hg1 (Kd.R_typed H51.out) (Kd.R_base H51.out) (by decide) (by decide) rfl).add (E := ent (Kd.raw 6) 78 w.heap.size (.slice C9 (d.rules.length + 1) j9) (T.map rcell ++ ([[Value.bool false, .string sh, .string e0, .slice none 0 0, .int .i8 0, .float .f64 0]] : List (List Value)))) hR1); have x_ := HT2.out.f.cell 9; have y_ := blk_frozen HT2.out.f 9; simp only [qV, Jt, Ju, Jv] at x_; clear hR1 hg1)
    clear HLm H51 HT1
    have hT := HT2.out.set 9 (.slice C9 (d.rules.length + 1) j9) (by have := HG3.out; omega) rfl
    clear HT HT2 x_ y_ xf9
    generalize World.setCell w1 ⟨g3, 9, none⟩ (.slice C9 (d.rules.length + 1) j9) = wc at hT ⊢
    have HT := jA hT
    clear hT
    have Za := HT.out.f.cell 10
    have Zd := HT.out.box.cell 10
    simp only [qV, Jt, Ju, Jv] at Za Zd
    have HLm := jA (show (([] : List S28).length + d.exc.length) * 48 ≤ 140737488355328 by have h := HK.out.exc; simp only [List.length_nil]; omega)
    go_upto_region 19 with ((with_reducible refine gate_builtin (b := .append) (xs := #[.tmp 88, .tmp 90]) rfl ?_); at_builtin; refine Kd.R_append_rows k28 (w0 := w) w.heap.size rfl (.tmp 88) (.tmp 90) 37 28 (.agg #[(.string ⟨#[]⟩), (.string ⟨#[]⟩), (.string ⟨#[]⟩)]) 48 rfl Try.underlying37 info28 rfl (by decide) (by decide) nil [] d.exc A10 d.exc.length c10 (fun _ => True) (fun _ => False) rfl rfl (Kd.R_nil _ _ _ _ (fun _ => True)) (HP.out.below HT.out.below).h10 (fun _ _ h => h) (fun _ h => h.elim) (fun _ _ => trivial) HT.out.below HT.out.below.size HLm.out ?_; intro v1 w1 hR1 _ hg1 _; obtain ⟨B10, k10, hv1⟩ := Kd.R_slice hR1; rw [List.nil_append] at hR1 hv1; subst hv1; have HT2 := jA ((HT.out.app (t := 28) hg1 (fun k hk => by simp [Value.ownBlock] at hk) (fun k hk => by simp [Value.ownBlock] at hk) (by decide) (by decide) rfl).add (E := ent k28 28 w.heap.size (.slice B10 d.exc.length k10) d.exc) hR1); have x_ := HT2.out.f.cell 10; have y_ := blk_frozen HT2.out.f 10; simp only [qV, Jt, Ju, Jv] at x_; clear hR1 hg1)
    clear HLm Zd
    have hT := HT2.out.set 10 (.slice B10 d.exc.length k10) (by have := HG3.out; omega) rfl
    clear HT HT2 x_ y_ Za
    generalize World.setCell w1 ⟨g3, 10, none⟩ (.slice B10 d.exc.length k10) = wc at hT ⊢
    have HT := jA hT
    clear hT
    have Za := HT.out.f.cell 10
    simp only [qV, Jt, Ju, Jv] at Za
    have HLm := jA (show (d.exc.length + 1) * 48 ≤ 140737488355328 by have h := HK.out.exc; omega)
    have HR1 := jA (HT.out.all.get 0 rfl : Kd.R k28 28 wc w.heap.size (fun _ => True) (.slice B10 d.exc.length k10) d.exc)
    have HT1 := jA HT.out.drop
    go_upto_region 20 with ((with_reducible refine gate_builtin (b := .append) (xs := #[.tmp 94, .tmp 96]) rfl ?_); at_builtin; refine Kd.R_append k28 (w0 := w) w.heap.size rfl (.tmp 94) (.tmp 96) 37 28 (.agg #[(.string ⟨#[]⟩), (.string ⟨#[]⟩), (.string ⟨#[]⟩)]) 48 rfl Try.underlying37 info28 rfl (by decide) (by decide) (.slice B10 d.exc.length k10) d.exc (⟨sh, e0, e0⟩ : S28) [.string sh, .string e0, .string e0] (fun _ => True) (fun _ => False) rfl rfl (k28_mkM _ _ _ _) (fun _ h => h.elim) (fun _ _ => trivial) HR1.out HT.out.below HT.out.below.size HLm.out ?_; intro v1 w1 hR1 _ hg1 _; obtain ⟨C10, j10, hv1⟩ := Kd.R_slice hR1; rw [List.length_append, List.length_singleton] at hv1; subst hv1; have HT2 := jA ((HT1.out.app (t := 28) hg1 (Kd.R_typed HR1.out) (Kd.R_base HR1.out) (by decide) (by decide) rfl).add (E := ent k28 28 w.heap.size (.slice C10 (d.exc.length + 1) j10) (d.exc ++ ([⟨sh, e0, e0⟩] : List S28))) hR1); have x_ := HT2.out.f.cell 10; have y_ := blk_frozen HT2.out.f 10; simp only [qV, Jt, Ju, Jv] at x_; clear hR1 hg1)
    clear HLm HR1 HT1
    have hT := HT2.out.set 10 (.slice C10 (d.exc.length + 1) j10) (by have := HG3.out; omega) rfl
    clear HT HT2 x_ y_ Za
    generalize World.setCell w1 ⟨g3, 10, none⟩ (.slice C10 (d.exc.length + 1) j10) = wc at hT ⊢
    have HT := jA hT
    clear hT
    have Zk : (d.acts.length : Int) ≤ ka := by have h := (Kd.R_reads' (HT.out.all.get 12 rfl : Kd.R Kd.string 9 wc w.heap.size (fun _ => True) (.slice Ba (d.acts.length + 1) ka) _)).2.1; omega
    have Zl : (d.subs.length : Int) ≤ j1 := by have h := (Kd.R_reads' (HT.out.all.get 8 rfl : Kd.R k54 54 wc w.heap.size (fun _ => True) (.slice C1 (d.subs.length + 1) j1) _)).2.1; omega
    have Zc : (d.roles.length : Int) ≤ kr := by have h := (Kd.R_reads' (HT.out.all.get 11 rfl : Kd.R Kd.string 9 wc w.heap.size (fun _ => True) (.slice Br (d.roles.length + 1) kr) _)).2.1; omega
    have Zm : (d.objs.length : Int) ≤ ko := by have h := (Kd.R_reads' (HT.out.all.get 10 rfl : Kd.R Kd.string 9 wc w.heap.size (fun _ => True) (.slice Bo (d.objs.length + 1) ko) _)).2.1; omega
    have Zn : (d.grps.length : Int) ≤ kg := by have h := (Kd.R_reads' (HT.out.all.get 9 rfl : Kd.R Kd.string 9 wc w.heap.size (fun _ => True) (.slice Bg (d.grps.length + 1) kg) _)).2.1; omega
    have xf0 := HT.out.f.cell 0
    have xf1 := HT.out.f.cell 1
    have xf2 := HT.out.f.cell 2
    have xf3 := HT.out.f.cell 3
    have xf4 := HT.out.f.cell 4
    have xp0 := HT.out.box.cell 0
    have xp1 := HT.out.box.cell 1
    have xp2 := HT.out.box.cell 2
    have xp3 := HT.out.box.cell 3
    have xp4 := HT.out.box.cell 4
    simp only [qV, Jt, Ju, Jv] at xf0 xf1 xf2 xf3 xf4 xp0 xp1 xp2 xp3 xp4
    go_upto_region 20 with fail
    refine start_ (n := 33) (S := fun w' => w'.cell? ⟨g3, 0, none⟩ = some (.slice Ba (d.acts.length + 1) ka) ∧ w'.cell? ⟨w.heap.size, 0, none⟩ = some (.slice A0 d.acts.length c0) ∧ w'.cell? ⟨g3, 1, none⟩ = some (.slice C1 (d.subs.length + 1) j1) ∧ w'.cell? ⟨w.heap.size, 1, none⟩ = some (.slice A1 d.subs.length c1) ∧ w'.cell? ⟨g3, 2, none⟩ = some (.slice Br (d.roles.length + 1) kr) ∧ w'.cell? ⟨w.heap.size, 2, none⟩ = some (.slice A2 d.roles.length c2) ∧ w'.cell? ⟨g3, 3, none⟩ = some (.slice Bo (d.objs.length + 1) ko) ∧ w'.cell? ⟨w.heap.size, 3, none⟩ = some (.slice A3 d.objs.length c3) ∧ w'.cell? ⟨g3, 4, none⟩ = some (.slice Bg (d.grps.length + 1) kg) ∧ w'.cell? ⟨w.heap.size, 4, none⟩ = some (.slice A4 d.grps.length c4)) (ds := [32]) (Jb 33 0) (by kernel_rfl) rfl (by kernel_rfl) ⟨xf0, xp0, xf1, xp1, xf2, xp2, xf3, xp3, xf4, xp4⟩ (fun hHeld => ?_)
    refine Jp 0 99 (Jb 33 1) rfl rfl ?_
    refine Jk 1 100 (Jb 33 3) rfl rfl hHeld (.inl ⟨by rfl, by rintro w' ⟨f0, p0, f1, p1, f2, p2, f3, p3, f4, p4⟩; go_simp; with_reducible rfl⟩) ?_
    refine Jp 2 101 (Jb 33 7) rfl rfl ?_
    refine Jk 3 102 (Jb 33 15) rfl rfl hHeld (.inl ⟨by rfl, by rintro w' ⟨f0, p0, f1, p1, f2, p2, f3, p3, f4, p4⟩; go_simp; with_reducible rfl⟩) ?_
    refine Jp 4 103 (Jb 33 31) rfl rfl ?_
    refine Jp 5 104 (Jb 33 63) rfl rfl ?_
    refine Jp 6 105 (Jb 33 127) rfl rfl ?_
    refine Jk 7 106 (Jb 33 255) rfl rfl hHeld (.inl ⟨by rfl, by rintro w' ⟨f0, p0, f1, p1, f2, p2, f3, p3, f4, p4⟩; go_simp; with_reducible rfl⟩) ?_
    refine Jp 8 107 (Jb 33 511) rfl rfl ?_
    refine Jk 9 108 (Jb 33 1023) rfl rfl hHeld (.inl ⟨by rfl, by rintro w' ⟨f0, p0, f1, p1, f2, p2, f3, p3, f4, p4⟩; go_simp; with_reducible rfl⟩) ?_
    refine Jp 10 109 (Jb 33 2047) rfl rfl ?_
    refine Jp 11 110 (Jb 33 4095) rfl rfl ?_
    refine Jp 12 111 (Jb 33 8191) rfl rfl ?_
    refine Jk 13 112 (Jb 33 16383) rfl rfl hHeld (.inl ⟨by rfl, by rintro w' ⟨f0, p0, f1, p1, f2, p2, f3, p3, f4, p4⟩; go_simp; with_reducible rfl⟩) ?_
    refine Jp 14 113 (Jb 33 32767) rfl rfl ?_
    refine Jk 15 114 (Jb 33 65535) rfl rfl hHeld (.inl ⟨by rfl, by rintro w' ⟨f0, p0, f1, p1, f2, p2, f3, p3, f4, p4⟩; go_simp; with_reducible rfl⟩) ?_
    refine Jp 16 115 (Jb 33 131071) rfl rfl ?_
    refine Jp 17 116 (Jb 33 262143) rfl rfl ?_
    refine Jp 18 117 (Jb 33 524287) rfl rfl ?_
    refine Jk 19 118 (Jb 33 1048575) rfl rfl hHeld (.inl ⟨by rfl, by rintro w' ⟨f0, p0, f1, p1, f2, p2, f3, p3, f4, p4⟩; go_simp; with_reducible rfl⟩) ?_
    refine Jp 20 119 (Jb 33 2097151) rfl rfl ?_
    refine Jk 21 120 (Jb 33 4194303) rfl rfl hHeld (.inl ⟨by rfl, by rintro w' ⟨f0, p0, f1, p1, f2, p2, f3, p3, f4, p4⟩; go_simp; with_reducible rfl⟩) ?_
    refine Jp 22 121 (Jb 33 8388607) rfl rfl ?_
    refine Jp 23 122 (Jb 33 16777215) rfl rfl ?_
    refine Jp 24 123 (Jb 33 33554431) rfl rfl ?_
    refine Jk 25 124 (Jb 33 67108863) rfl rfl hHeld (.inl ⟨by rfl, by rintro w' ⟨f0, p0, f1, p1, f2, p2, f3, p3, f4, p4⟩; go_simp; with_reducible rfl⟩) ?_
    refine Jp 26 125 (Jb 33 134217727) rfl rfl ?_
    refine Jk 27 126 (Jb 33 268435455) rfl rfl hHeld (.inl ⟨by rfl, by rintro w' ⟨f0, p0, f1, p1, f2, p2, f3, p3, f4, p4⟩; go_simp; with_reducible rfl⟩) ?_
    refine Jp 28 127 (Jb 33 536870911) rfl rfl ?_
    refine Jp 29 128 (Jb 33 1073741823) rfl rfl ?_
    refine pure_ (i := 30) (N := some 129) (v := ?_) (a' := ?_) (Jb 33 2147483647) rfl rfl (by kernel_rfl) (fun _ _ _ h => h) (Or.inl ⟨by rfl, ?_⟩) ?_ ?_
    rotate_left
    ·intro w'
     have hz := z39
     go_simp
     with_reducible rfl
    rotate_left
    ·simp only [Act.put, Jq, Jr, Js]
     rfl
    refine one_ (i := 31) (N := some 8) (Jb 33 4294967295) rfl rfl (by kernel_rfl) (by decide) (fun K hK => ?_)
    refine GDiffer.step_run (w' := World.alloc wc.drew (.cells #[.slice none 0 0, .slice none 0 0, .slice none 0 0, .slice none 0 0, .slice none 0 0, .slice none 0 0, .slice none 0 0, .slice none 0 0, .slice none 0 0, .slice none 0 0, .slice none 0 0] 39)) (v := .pointer (some ⟨wc.drew.heap.size, 0, none⟩)) rfl rfl (by have hz := z39; go_simp) ?_
    have hb8 := below_alloc (Below.refl _ wc.drew) (.cells #[.slice none 0 0, .slice none 0 0, .slice none 0 0, .slice none 0 0, .slice none 0 0, .slice none 0 0, .slice none 0 0, .slice none 0 0, .slice none 0 0, .slice none 0 0, .slice none 0 0] 39)
    have hs8 : Stays (World.alloc wc.drew (.cells #[.slice none 0 0, .slice none 0 0, .slice none 0 0, .slice none 0 0, .slice none 0 0, .slice none 0 0, .slice none 0 0, .slice none 0 0, .slice none 0 0, .slice none 0 0, .slice none 0 0] 39)) wc.drew.heap.size #[.slice none 0 0, .slice none 0 0, .slice none 0 0, .slice none 0 0, .slice none 0 0, .slice none 0 0, .slice none 0 0, .slice none 0 0, .slice none 0 0, .slice none 0 0, .slice none 0 0] 39 := heap_alloc_new wc.drew _
    have hT8 := (HT.out.move (below_drew (Below.refl wc.heap.size wc))).move hb8
    have h83 : g3 < wc.drew.heap.size := (Array.getElem?_eq_some_iff.1 HT.out.f).1
    have h8v : gv < wc.drew.heap.size := (Array.getElem?_eq_some_iff.1 HT.out.res).1
    have h8b : w.heap.size < wc.drew.heap.size := (Array.getElem?_eq_some_iff.1 HT.out.box).1
    have hH8 : (fun w' => w'.cell? ⟨g3, 0, none⟩ = some (.slice Ba (d.acts.length + 1) ka) ∧ w'.cell? ⟨w.heap.size, 0, none⟩ = some (.slice A0 d.acts.length c0) ∧ w'.cell? ⟨g3, 1, none⟩ = some (.slice C1 (d.subs.length + 1) j1) ∧ w'.cell? ⟨w.heap.size, 1, none⟩ = some (.slice A1 d.subs.length c1) ∧ w'.cell? ⟨g3, 2, none⟩ = some (.slice Br (d.roles.length + 1) kr) ∧ w'.cell? ⟨w.heap.size, 2, none⟩ = some (.slice A2 d.roles.length c2) ∧ w'.cell? ⟨g3, 3, none⟩ = some (.slice Bo (d.objs.length + 1) ko) ∧ w'.cell? ⟨w.heap.size, 3, none⟩ = some (.slice A3 d.objs.length c3) ∧ w'.cell? ⟨g3, 4, none⟩ = some (.slice Bg (d.grps.length + 1) kg) ∧ w'.cell? ⟨w.heap.size, 4, none⟩ = some (.slice A4 d.grps.length c4)) (World.alloc wc.drew (.cells #[.slice none 0 0, .slice none 0 0, .slice none 0 0, .slice none 0 0, .slice none 0 0, .slice none 0 0, .slice none 0 0, .slice none 0 0, .slice none 0 0, .slice none 0 0, .slice none 0 0] 39)) := ⟨pw_cell_below hb8 xf0, pw_cell_below hb8 xp0, pw_cell_below hb8 xf1, pw_cell_below hb8 xp1, pw_cell_below hb8 xf2, pw_cell_below hb8 xp2, pw_cell_below hb8 xf3, pw_cell_below hb8 xp3, pw_cell_below hb8 xf4, pw_cell_below hb8 xp4⟩
    obtain ⟨g8, hg8⟩ : ∃ g8, g8 = wc.drew.heap.size := ⟨_, rfl⟩
    rw [← hg8] at hs8 h83 h8v h8b ⊢
    have HN8 := jA (And.intro h83 (And.intro h8v h8b))
    have HS8 := jA hs8
    have HT8 := jA hT8
    clear hs8 hT8 h83 h8v h8b hb8 hg8 hHeld
    generalize World.alloc wc.drew (.cells #[.slice none 0 0, .slice none 0 0, .slice none 0 0, .slice none 0 0, .slice none 0 0, .slice none 0 0, .slice none 0 0, .slice none 0 0, .slice none 0 0, .slice none 0 0, .slice none 0 0] 39) = W8 at HS8 HT8 hH8 ⊢
    refine hK.out _ _ hH8 (fun hHeld => ?_)
    clear hK K hH8 hHeld
    refine norm_ (a' := ?_) ?_ ?_; rotate_left; (show Act.put _ (some 8) _ = _; simp only [Act.put, Jq, Jr, Js]; rfl)
    refine last_ (i := 32) (N := none) (Jb 33 8589934591) rfl rfl (by kernel_rfl) (by decide) (fun K hK => ?_)
    have hst := run_storeAt_mid (P := Try.prog) W8 g8 0 39 #[.slice Ba d.acts.length ka, .slice C1 d.subs.length j1, .slice Br d.roles.length kr, .slice Bo d.objs.length ko, .slice Bg d.grps.length kg, .slice none 0 0, .slice none 0 0, .slice none 0 0, .slice none 0 0, .slice none 0 0, .slice none 0 0] (Stays.there (cs := #[.slice none 0 0, .slice none 0 0, .slice none 0 0, .slice none 0 0, .slice none 0 0, .slice none 0 0, .slice none 0 0, .slice none 0 0, .slice none 0 0, .slice none 0 0, .slice none 0 0]) HS8.out) i39 (by simp [Value.oneCell'])
    refine GDiffer.step_skip (w' := World.setCells W8 g8 0 (#[.slice Ba d.acts.length ka, .slice C1 d.subs.length j1, .slice Br d.roles.length kr, .slice Bo d.objs.length ko, .slice Bg d.grps.length kg, .slice none 0 0, .slice none 0 0, .slice none 0 0, .slice none 0 0, .slice none 0 0, .slice none 0 0] : Array Value).toList) rfl rfl (by first | (simp [execOp, Act.eval, hst]; done) | (show Sem.run Try.prog _ _ = _; simp only [execOp, Act.eval]; simp; rw [hst]; rfl)) ?_
    refine hK.out _ _ ?_
    clear hK K hst
    refine done_ (by kernel_rfl) ?_
    have hT9 := HT8.out.sets HS8.out (#[.slice Ba d.acts.length ka, .slice C1 d.subs.length j1, .slice Br d.roles.length kr, .slice Bo d.objs.length ko, .slice Bg d.grps.length kg, .slice none 0 0, .slice none 0 0, .slice none 0 0, .slice none 0 0, .slice none 0 0, .slice none 0 0] : Array Value).toList (by have := HN8.out.2.2; omega) (by have := HN8.out.2.1; omega) (by have := HN8.out.1; omega) (by have := HN8.out.2.2; omega) rfl
    have hG9 := setCells_var (vs := #[.slice Ba d.acts.length ka, .slice C1 d.subs.length j1, .slice Br d.roles.length kr, .slice Bo d.objs.length ko, .slice Bg d.grps.length kg, .slice none 0 0, .slice none 0 0, .slice none 0 0, .slice none 0 0, .slice none 0 0, .slice none 0 0]) HS8.out rfl
    clear HT8 HS8 HT
    generalize World.setCells W8 g8 0 (#[.slice Ba d.acts.length ka, .slice C1 d.subs.length j1, .slice Br d.roles.length kr, .slice Bo d.objs.length ko, .slice Bg d.grps.length kg, .slice none 0 0, .slice none 0 0, .slice none 0 0, .slice none 0 0, .slice none 0 0, .slice none 0 0] : Array Value).toList = wc at hT9 hG9 ⊢
    have HT := jA hT9
    have HG := jA hG9
    clear hT9 hG9
    clear Zk xf0 xp0 Zl xf1 xp1 Zc xf2 xp2 Zm xf3 xp3 Zn xf4 xp4
    have Zo : (d.mem.length : Int) ≤ k5 := by have h := (Kd.R_reads' (HT.out.all.get 7 rfl : Kd.R k108 108 wc w.heap.size (fun _ => True) (.slice B5 (d.mem.length + 1) k5) _)).2.1; omega
    have xf5 := HT.out.f.cell 5
    have xp5 := HT.out.box.cell 5
    simp only [qV, Jt, Ju, Jv] at xf5 xp5
    have xg := HG.out.cell 5
    have yg := blk_frozen HG.out 5
    simp only [Jt, Ju, Jv] at xg
    go_upto_region 22 with fail
    clear xg yg Zo xf5 xp5
    have hT := HT.out.var (j := 5) HG.out (.slice B5 d.mem.length k5) (by have := HN8.out.2.2; omega) (by have := HN8.out.2.1; omega) (by have := HN8.out.1; omega) (by have := HN8.out.2.2; omega) rfl
    have hG := stays_set HG.out 5 (.slice B5 d.mem.length k5)
    simp only [Jq, Jr, Js] at hG
    clear HT HG
    generalize World.setCell wc ⟨g8, 5, none⟩ (.slice B5 d.mem.length k5) = wc at hT hG ⊢
    have HT := jA hT
    have HG := jA hG
    clear hT hG
    have Zp : (d.inh.length : Int) ≤ k6 := by have h := (Kd.R_reads' (HT.out.all.get 6 rfl : Kd.R k108 108 wc w.heap.size (fun _ => True) (.slice B6 (d.inh.length + 1) k6) _)).2.1; omega
    have xf6 := HT.out.f.cell 6
    have xp6 := HT.out.box.cell 6
    simp only [qV, Jt, Ju, Jv] at xf6 xp6
    have xg := HG.out.cell 6
    have yg := blk_frozen HG.out 6
    simp only [Jt, Ju, Jv] at xg
    go_upto_region 23 with fail
    clear xg yg Zp xf6 xp6
    have hT := HT.out.var (j := 6) HG.out (.slice B6 d.inh.length k6) (by have := HN8.out.2.2; omega) (by have := HN8.out.2.1; omega) (by have := HN8.out.1; omega) (by have := HN8.out.2.2; omega) rfl
    have hG := stays_set HG.out 6 (.slice B6 d.inh.length k6)
    simp only [Jq, Jr, Js] at hG
    clear HT HG
    generalize World.setCell wc ⟨g8, 6, none⟩ (.slice B6 d.inh.length k6) = wc at hT hG ⊢
    have HT := jA hT
    have HG := jA hG
    clear hT hG
    have Zq : (d.par.length : Int) ≤ k7 := by have h := (Kd.R_reads' (HT.out.all.get 5 rfl : Kd.R k108 108 wc w.heap.size (fun _ => True) (.slice B7 (d.par.length + 1) k7) _)).2.1; omega
    have xf7 := HT.out.f.cell 7
    have xp7 := HT.out.box.cell 7
    simp only [qV, Jt, Ju, Jv] at xf7 xp7
    have xg := HG.out.cell 7
    have yg := blk_frozen HG.out 7
    simp only [Jt, Ju, Jv] at xg
    go_upto_region 24 with fail
    clear xg yg Zq xf7 xp7
    have hT := HT.out.var (j := 7) HG.out (.slice B7 d.par.length k7) (by have := HN8.out.2.2; omega) (by have := HN8.out.2.1; omega) (by have := HN8.out.1; omega) (by have := HN8.out.2.2; omega) rfl
    have hG := stays_set HG.out 7 (.slice B7 d.par.length k7)
    simp only [Jq, Jr, Js] at hG
    clear HT HG
    generalize World.setCell wc ⟨g8, 7, none⟩ (.slice B7 d.par.length k7) = wc at hT hG ⊢
    have HT := jA hT
    have HG := jA hG
    clear hT hG
    have Zr : (d.wit.length : Int) ≤ k8 := by have h := (Kd.R_reads' (HT.out.all.get 4 rfl : Kd.R k108 108 wc w.heap.size (fun _ => True) (.slice B8 (d.wit.length + 1) k8) _)).2.1; omega
    have xf8 := HT.out.f.cell 8
    have xp8 := HT.out.box.cell 8
    simp only [qV, Jt, Ju, Jv] at xf8 xp8
    have xg := HG.out.cell 8
    have yg := blk_frozen HG.out 8
    simp only [Jt, Ju, Jv] at xg
    go_upto_region 25 with fail
    clear xg yg Zr xf8 xp8
    have hT := HT.out.var (j := 8) HG.out (.slice B8 d.wit.length k8) (by have := HN8.out.2.2; omega) (by have := HN8.out.2.1; omega) (by have := HN8.out.1; omega) (by have := HN8.out.2.2; omega) rfl
    have hG := stays_set HG.out 8 (.slice B8 d.wit.length k8)
    simp only [Jq, Jr, Js] at hG
    clear HT HG
    generalize World.setCell wc ⟨g8, 8, none⟩ (.slice B8 d.wit.length k8) = wc at hT hG ⊢
    have HT := jA hT
    have HG := jA hG
    clear hT hG
    have Zs : (d.rules.length : Int) ≤ j9 := by have h := (Kd.R_reads' (HT.out.all.get 1 rfl : Kd.R (Kd.raw 6) 78 wc w.heap.size (fun _ => True) (.slice C9 (d.rules.length + 1) j9) _)).2.1; omega
    have xf9 := HT.out.f.cell 9
    have xp9 := HT.out.box.cell 9
    simp only [qV, Jt, Ju, Jv] at xf9 xp9
    have xg := HG.out.cell 9
    have yg := blk_frozen HG.out 9
    simp only [Jt, Ju, Jv] at xg
    go_upto_region 26 with fail
    clear xg yg Zs xf9 xp9
    have hT := HT.out.var (j := 9) HG.out (.slice C9 d.rules.length j9) (by have := HN8.out.2.2; omega) (by have := HN8.out.2.1; omega) (by have := HN8.out.1; omega) (by have := HN8.out.2.2; omega) rfl
    have hG := stays_set HG.out 9 (.slice C9 d.rules.length j9)
    simp only [Jq, Jr, Js] at hG
    clear HT HG
    generalize World.setCell wc ⟨g8, 9, none⟩ (.slice C9 d.rules.length j9) = wc at hT hG ⊢
    have HT := jA hT
    have HG := jA hG
    clear hT hG
    have Zf : (d.exc.length : Int) ≤ j10 := by have h := (Kd.R_reads' (HT.out.all.get 0 rfl : Kd.R k28 28 wc w.heap.size (fun _ => True) (.slice C10 (d.exc.length + 1) j10) _)).2.1; omega
    have Za := HT.out.f.cell 10
    have Zd := HT.out.box.cell 10
    simp only [qV, Jt, Ju, Jv] at Za Zd
    have xg := HG.out.cell 10
    have yg := blk_frozen HG.out 10
    simp only [Jt, Ju, Jv] at xg
    go_upto_region 27 with fail
    clear xg yg Zf Za Zd
    have hT := HT.out.var (j := 10) HG.out (.slice C10 d.exc.length j10) (by have := HN8.out.2.2; omega) (by have := HN8.out.2.1; omega) (by have := HN8.out.1; omega) (by have := HN8.out.2.2; omega) rfl
    have hG := stays_set HG.out 10 (.slice C10 d.exc.length j10)
    simp only [Jq, Jr, Js] at hG
    clear HT HG
    generalize World.setCell wc ⟨g8, 10, none⟩ (.slice C10 d.exc.length j10) = wc at hT hG ⊢
    have HT := jA hT
    have HG := jA hG
    clear hT hG
    have HF := jA (show Stays wc g3 #[.slice Ba (d.acts.length + 1) ka, .slice C1 (d.subs.length + 1) j1, .slice Br (d.roles.length + 1) kr, .slice Bo (d.objs.length + 1) ko, .slice Bg (d.grps.length + 1) kg, .slice B5 (d.mem.length + 1) k5, .slice B6 (d.inh.length + 1) k6, .slice B7 (d.par.length + 1) k7, .slice B8 (d.wit.length + 1) k8, .slice C9 (d.rules.length + 1) j9, .slice C10 (d.exc.length + 1) j10] 39 from HT.out.f)
    go_wp2_with (first | ((with_reducible refine gate_dst (N := 172) rfl ?_); refine wpList_load_blk rfl 39 (.tmp 8) rfl g8 ?hx1 #[.slice Ba d.acts.length ka, .slice C1 d.subs.length j1, .slice Br d.roles.length kr, .slice Bo d.objs.length ko, .slice Bg d.grps.length kg, .slice B5 d.mem.length k5, .slice B6 d.inh.length k6, .slice B7 d.par.length k7, .slice B8 d.wit.length k8, .slice C9 d.rules.length j9, .slice C10 d.exc.length j10] 39 HG.out _ Try.underlying39 rfl (by kernel_rfl) ?_; (case hx1 => rfl)) | ((with_reducible refine gate_dst (N := 173) rfl ?_); refine wpList_load_blk rfl 39 (.tmp 3) rfl g3 ?hx2 #[.slice Ba (d.acts.length + 1) ka, .slice C1 (d.subs.length + 1) j1, .slice Br (d.roles.length + 1) kr, .slice Bo (d.objs.length + 1) ko, .slice Bg (d.grps.length + 1) kg, .slice B5 (d.mem.length + 1) k5, .slice B6 (d.inh.length + 1) k6, .slice B7 (d.par.length + 1) k7, .slice B8 (d.wit.length + 1) k8, .slice C9 (d.rules.length + 1) j9, .slice C10 (d.exc.length + 1) j10] 39 HF.out _ Try.underlying39 rfl (by kernel_rfl) ?_; (case hx2 => rfl)) | ((with_reducible refine gate_store (t := 43) (p := 2) (v := .tmp 175) rfl ?_); refine wpList_store_var rfl 43 (.tmp 2) (.tmp 175) rfl gv #[.slice Ba d.acts.length ka, .slice C1 d.subs.length j1, .slice Br d.roles.length kr, .slice Bo d.objs.length ko, .slice Bg d.grps.length kg, .slice B5 d.mem.length k5, .slice B6 d.inh.length k6, .slice B7 d.par.length k7, .slice B8 d.wit.length k8, .slice C9 d.rules.length j9, .slice C10 d.exc.length j10, .slice Ba (d.acts.length + 1) ka, .slice C1 (d.subs.length + 1) j1, .slice Br (d.roles.length + 1) kr, .slice Bo (d.objs.length + 1) ko, .slice Bg (d.grps.length + 1) kg, .slice B5 (d.mem.length + 1) k5, .slice B6 (d.inh.length + 1) k6, .slice B7 (d.par.length + 1) k7, .slice B8 (d.wit.length + 1) k8, .slice C9 (d.rules.length + 1) j9, .slice C10 (d.exc.length + 1) j10, .slice Bl d.rules.length kl] ?hx3 ?hy3 HT.out.res rfl (by kernel_rfl) (by simp [Value.oneCell']) ?_; (case hx3 => rfl); (case hy3 => rfl)))
    (try simp only [Exit.inBlock, Exit.then])
    have hres := setCells_var (vs := #[.slice Ba d.acts.length ka, .slice C1 d.subs.length j1, .slice Br d.roles.length kr, .slice Bo d.objs.length ko, .slice Bg d.grps.length kg, .slice B5 d.mem.length k5, .slice B6 d.inh.length k6, .slice B7 d.par.length k7, .slice B8 d.wit.length k8, .slice C9 d.rules.length j9, .slice C10 d.exc.length j10, .slice Ba (d.acts.length + 1) ka, .slice C1 (d.subs.length + 1) j1, .slice Br (d.roles.length + 1) kr, .slice Bo (d.objs.length + 1) ko, .slice Bg (d.grps.length + 1) kg, .slice B5 (d.mem.length + 1) k5, .slice B6 (d.inh.length + 1) k6, .slice B7 (d.par.length + 1) k7, .slice B8 (d.wit.length + 1) k8, .slice C9 (d.rules.length + 1) j9, .slice C10 (d.exc.length + 1) j10, .slice Bl d.rules.length kl]) HT.out.res rfl
    refine bodyPost_ret (results_single rfl (.cell gv 43 #[.slice Ba d.acts.length ka, .slice C1 d.subs.length j1, .slice Br d.roles.length kr, .slice Bo d.objs.length ko, .slice Bg d.grps.length kg, .slice B5 d.mem.length k5, .slice B6 d.inh.length k6, .slice B7 d.par.length k7, .slice B8 d.wit.length k8, .slice C9 d.rules.length j9, .slice C10 d.exc.length j10, .slice Ba (d.acts.length + 1) ka, .slice C1 (d.subs.length + 1) j1, .slice Br (d.roles.length + 1) kr, .slice Bo (d.objs.length + 1) ko, .slice Bg (d.grps.length + 1) kg, .slice B5 (d.mem.length + 1) k5, .slice B6 (d.inh.length + 1) k6, .slice B7 (d.par.length + 1) k7, .slice B8 (d.wit.length + 1) k8, .slice C9 (d.rules.length + 1) j9, .slice C10 (d.exc.length + 1) j10, .slice Bl d.rules.length kl] (0, 0) _ rfl hres Try.underlying43 rfl (by kernel_rfl) .nil)) rfl ?_
    have hall := HT.out.all.only (Only.sets HT.out.res (#[.slice Ba d.acts.length ka, .slice C1 d.subs.length j1, .slice Br d.roles.length kr, .slice Bo d.objs.length ko, .slice Bg d.grps.length kg, .slice B5 d.mem.length k5, .slice B6 d.inh.length k6, .slice B7 d.par.length k7, .slice B8 d.wit.length k8, .slice C9 d.rules.length j9, .slice C10 d.exc.length j10, .slice Ba (d.acts.length + 1) ka, .slice C1 (d.subs.length + 1) j1, .slice Br (d.roles.length + 1) kr, .slice Bo (d.objs.length + 1) ko, .slice Bg (d.grps.length + 1) kg, .slice B5 (d.mem.length + 1) k5, .slice B6 (d.inh.length + 1) k6, .slice B7 (d.par.length + 1) k7, .slice B8 (d.wit.length + 1) k8, .slice C9 (d.rules.length + 1) j9, .slice C10 (d.exc.length + 1) j10, .slice Bl d.rules.length kl] : Array Value).toList) rfl
    have hbel := setCells_below HT.out.below (Nat.le_of_lt HGV.out) (#[.slice Ba d.acts.length ka, .slice C1 d.subs.length j1, .slice Br d.roles.length kr, .slice Bo d.objs.length ko, .slice Bg d.grps.length kg, .slice B5 d.mem.length k5, .slice B6 d.inh.length k6, .slice B7 d.par.length k7, .slice B8 d.wit.length k8, .slice C9 d.rules.length j9, .slice C10 d.exc.length j10, .slice Ba (d.acts.length + 1) ka, .slice C1 (d.subs.length + 1) j1, .slice Br (d.roles.length + 1) kr, .slice Bo (d.objs.length + 1) ko, .slice Bg (d.grps.length + 1) kg, .slice B5 (d.mem.length + 1) k5, .slice B6 (d.inh.length + 1) k6, .slice B7 (d.par.length + 1) k7, .slice B8 (d.wit.length + 1) k8, .slice C9 (d.rules.length + 1) j9, .slice C10 (d.exc.length + 1) j10, .slice Bl d.rules.length kl] : Array Value).toList
    clear hres HT HG HF
    generalize World.setCells wc gv 0 (#[.slice Ba d.acts.length ka, .slice C1 d.subs.length j1, .slice Br d.roles.length kr, .slice Bo d.objs.length ko, .slice Bg d.grps.length kg, .slice B5 d.mem.length k5, .slice B6 d.inh.length k6, .slice B7 d.par.length k7, .slice B8 d.wit.length k8, .slice C9 d.rules.length j9, .slice C10 d.exc.length j10, .slice Ba (d.acts.length + 1) ka, .slice C1 (d.subs.length + 1) j1, .slice Br (d.roles.length + 1) kr, .slice Bo (d.objs.length + 1) ko, .slice Bg (d.grps.length + 1) kg, .slice B5 (d.mem.length + 1) k5, .slice B6 (d.inh.length + 1) k6, .slice B7 (d.par.length + 1) k7, .slice B8 (d.wit.length + 1) k8, .slice C9 (d.rules.length + 1) j9, .slice C10 (d.exc.length + 1) j10, .slice Bl d.rules.length kl] : Array Value).toList = wf at hall hbel ⊢
    exact ⟨d, Ba, ka, C1, j1, Br, kr, Bo, ko, Bg, kg, B5, k5, B6, k6, B7, k7, B8, k8, C9, j9, C10, j10, Bl, kl, T, rfl, rfl, HTM.out, hall, hbel⟩
end Go.Proofs.Ythaiodklfoegiaa.QRoom
