/- Of this session's texts, what the row uses: MStand, MSide, VPure, MPol, RCat, RCget, RCput, RBegin, RCheck, RMStep, RVer, RKnown, RLk, RMask, RTrace. -/
import Derived.Deep.MidRow
import Derived.Test.YtdgkppldopiaoaaGreatZ2
import Derived.Test.YtdgkppldopiaoaaGreatZ1
import Derived.WalkSpells
set_option linter.unusedSimpArgs false
set_option linter.unusedVariables false
set_option maxHeartbeats 8000000
set_option maxRecDepth 100000
/- mean.stand: a side of a name. -/
namespace Go.Proofs.YtdgkppldopiaoaaGreat.MStand
open Go.RowKit YtdgkppldopiaoaaGreatW.PrintWords YtdgkppldopiaoaaGreatW.PrintLast YtdgkppldopiaoaaGreatW.PrintMore BMap BRow MLines MPut MClose MConcat Go.Maps
open PG
def IsSet (W : World) (b : Nat) (R : ByteArray → Prop) : Prop := ∃ f n, MapF Value.string unitV okS W b f n ∧ ∀ s, (f s).isSome = true ↔ R s
theorem IsSet.below {W W1 : World} {b : Nat} {R : ByteArray → Prop} (h : IsSet W b R) (hb : Below W.heap.size W W1) : IsSet W1 b R := by
 obtain ⟨f, n, h1, h2⟩ := h
 exact ⟨f, n, h1.below hb, h2⟩
theorem IsSet.lt {W : World} {b : Nat} {R : ByteArray → Prop} (h : IsSet W b R) : b < W.heap.size := by
 obtain ⟨f, n, h1, h2⟩ := h
 exact h1.lt
structure Var (w wr : World) (bs bm : Nat) (name : ByteArray) (R : ByteArray → Prop) : Prop where
 rvar : wr.heap[w.heap.size]? = some (.cells #[.string ⟨#[]⟩, .float .f64 0, .map none] 222 (0, 0))
 var : wr.heap[bs]? = some (.cells #[.string name, .float .f64 0, .map (some bm)] 222 (0, 0))
 set : IsSet wr bm R
 ne : bs ≠ bm
 gs : w.heap.size < bs
 gm : w.heap.size < bm
 below : Below w.heap.size w wr
theorem Var.move {w wr w1 : World} {bs bm : Nat} {name : ByteArray} {R : ByteArray → Prop} (h : Var w wr bs bm name R) (hb : Below wr.heap.size wr w1) : Var w w1 bs bm name R :=
 ⟨(hb.block _ (Array.getElem?_eq_some_iff.1 h.rvar).1).trans h.rvar, (hb.block _ (Array.getElem?_eq_some_iff.1 h.var).1).trans h.var, h.set.below hb, h.ne, h.gs, h.gm, below_then h.below h.below.size hb⟩
theorem Var.put {w wr w5 : World} {bs bm : Nat} {name : ByteArray} {R R' : ByteArray → Prop} {f : ByteArray → Option Unit} {n : Nat} (h : Var w wr bs bm name R) (hM : MapF Value.string unitV okS w5 bm f n) (hg : wr.grownBy w5 (some bm)) (hf : ∀ s, (f s).isSome = true ↔ R' s) : Var w w5 bs bm name R' :=
 ⟨(hg.block _ (Array.getElem?_eq_some_iff.1 h.rvar).1 (fun e => absurd (Option.some.inj e) (Nat.ne_of_lt h.gm))).trans h.rvar, (hg.block _ (Array.getElem?_eq_some_iff.1 h.var).1 (fun e => h.ne (Option.some.inj e))).trans h.var, ⟨f, n, hM, hf⟩, h.ne, h.gs, h.gm, h.below.grown hg h.below.size (fun k hk => by cases hk; exact Nat.le_of_lt h.gm)⟩
theorem z222 (w : World) : (zeroValue 222).run Tryz.prog w = .ok (.agg #[.string ⟨#[]⟩, .float .f64 0, .map none]) w := by kernel_rfl
theorem i95 : (Tryz.prog.info? 222).map (·.size) = some 3 := by kernel_rfl
theorem up_to (A : Option Addr) (c : Nat) (x : ByteArray) (w : World) (ps : List S242) (n : Nat) (hn : ps.length = n) (hC : Kd.C k242 w A ps.length ps) (hc : ps.length ≤ c) (hx : okS x) (hok : ∀ q ∈ ps, okS q.f0 ∧ okS q.f1) (hb : n ≤ 8796093021952) :
  Calls Tryz.prog 128 #[.slice A n c, .string x] w fun e w' => ∃ v, e = .returned v ∧ ∃ L, Kd.R Kd.string 9 w' w.heap.size (fun _ => True) v L ∧ L.Nodup ∧ (∀ s, s ∈ L ↔ MClose.Reach ps x s) ∧ Below w.heap.size w w' := by
 subst hn; exact up_calls A c x w ps hC hc hx hok hb
theorem stand_calls (name : ByteArray) (A1 : Option Addr) (c1 : Nat) (near : List S242) (A2 : Option Addr) (c2 : Nat) (far : List S242) (w : World)
  (h1 : Kd.C k242 w A1 near.length near) (h2 : Kd.C k242 w A2 far.length far) (hx : okS name) (hok : ∀ q ∈ near ++ far, okS q.f0 ∧ okS q.f1) (hsum : near.length + far.length ≤ 8796093021952) :
  Calls Tryz.prog 121 #[.string name, .slice A1 near.length c1, .slice A2 far.length c2] w fun e w' => ∃ b, e = .returned (.agg #[.string name, .float .f64 0, .map (some b)]) ∧ IsSet w' b (MClose.Reach (near ++ far) name) ∧ w.heap.size ≤ b ∧ Below w.heap.size w w' := by
 have H1 := jA h1
 have H2 := jA h2
 have HX := jA hx
 have HOK := jA hok
 have HS := jA hsum
 clear h1 h2 hx hok hsum
 have hmm := @run_makeMap Tryz.prog
 go_enter Tryz.func121, Tryz.ntmps121
 go_upto_region 2 with (first | ((with_reducible refine gate_dst (N := 7) rfl ?_); refine wpList_alloc_store rfl rfl 222 7 (.tmp 12) rfl rfl rfl #[.string ⟨#[]⟩, .float .f64 0, .map none] #[.string name, .float .f64 0, .map (some (w.heap.size + 1))] _ (z222 _) rfl i95 rfl (by simp [Value.oneCell']) ?hx ?hp ?_; (case hx => rfl); (case hp => rfl)))
 simp only [Act.put, List.setIfInBounds_toArray, List.set_cons_succ, List.set_cons_zero, World.size_alloc]
 obtain ⟨W, hW⟩ : ∃ W, W = (((w.alloc (.cells #[.string ⟨#[]⟩, .float .f64 0, .map none] 222)).alloc (.map #[] 0)).alloc (.cells #[.string name, .float .f64 0, .map (some (w.heap.size + 1))] 222)) := ⟨_, rfl⟩
 have hV : Var w W (w.heap.size + 1 + 1) (w.heap.size + 1) name (fun _ => False) := by
  subst hW
  have hmade := (MapF.made (kenc := Value.string) (venc := unitV) (ok := okS) (w.alloc (.cells #[.string ⟨#[]⟩, .float .f64 0, .map none] 222))).alloc (.cells #[.string name, .float .f64 0, .map (some (w.heap.size + 1))] 222)
  rw [World.size_alloc] at hmade
  refine ⟨?_, ?_, ⟨fun _ => none, 0, hmade, fun s => by simp⟩, by omega, by omega, by omega, below_alloc (below_alloc (below_alloc (Below.refl _ _) _) _) _⟩
  ·exact (Below.heap_alloc _ _ _ (by simp only [World.size_alloc]; omega)).trans ((Below.heap_alloc _ _ _ (by simp only [World.size_alloc]; omega)).trans (heap_alloc_new w _))
  ·have h1 := heap_alloc_new ((w.alloc (.cells #[.string ⟨#[]⟩, .float .f64 0, .map none] 222)).alloc (.map #[] 0)) (.cells #[.string name, .float .f64 0, .map (some (w.heap.size + 1))] 222)
   rw [World.size_alloc, World.size_alloc] at h1
   exact h1
 rw [← hW]
 have HV := jA hV
 clear hmm hW hV
 have HV2 := jA (HV.out.move (below_alloc (Below.refl _ W) (.cells #[.slice A1 near.length c1, .slice A2 far.length c2] 78)))
 have hc0 : (W.alloc (.cells #[.slice A1 near.length c1, .slice A2 far.length c2] 78)).cell? ⟨W.heap.size, 0, none⟩ = some (.slice A1 near.length c1) := by go_simp
 have hc1 : (W.alloc (.cells #[.slice A1 near.length c1, .slice A2 far.length c2] 78)).cell? ⟨W.heap.size, 1, none⟩ = some (.slice A2 far.length c2) := by go_simp
 have HWW := jA (show W.heap.size < (W.alloc (.cells #[.slice A1 near.length c1, .slice A2 far.length c2] 78)).heap.size by simp)
 have HC0 := jA hc0
 have HC1 := jA hc1
 clear hc0 hc1
 go_upto_region 3 with (first | (go_at_call 129; (with_reducible refine (concat_calls A1 c1 near A2 c2 far W.heap.size _ HC0.out HC1.out (Kd.C_below H1.out HV2.out.below) (Kd.C_below H2.out HV2.out.below) HS.out).mono ?_); rintro e w2 ⟨v2, rfl, hH⟩; obtain ⟨A3, c3, rfl, hl3, hC3⟩ := hH.read (by simp) (by have := HS.out; omega); have HV3 := jA (HV2.out.move hH.below); have HB3 := jA hH.below.size; have HC3 := jA hC3; have HL3 := jA hl3; clear hH hC3 hl3) | (go_at_call 128; (with_reducible refine (up_to A3 c3 name _ (near ++ far) _ List.length_append HC3.out HL3.out HX.out HOK.out HS.out).mono ?_); rintro e w4 ⟨v4, rfl, L, hR, hN, hS, hB4⟩; obtain ⟨A4, c4, rfl, hl4, hC4⟩ := Kd.R_reads hR; have HV4 := jA (HV3.out.move hB4); have HC4 := jA hC4; have HN4 := jA hN; have HS4 := jA hS; have HR4 := jA (Kd.R_lower (Kd.R_mono (Kd.R_bound hR) (ok' := fun k => w.heap.size + 2 < k) (fun k hk => Nat.lt_of_lt_of_le (Nat.lt_of_lt_of_le (Array.getElem?_eq_some_iff.1 HV.out.var).1 (Nat.le_trans (Nat.le_of_lt HWW.out) HB3.out)) hk.2.1)) HV3.out.below.size); clear hR hN hS hB4 hC4))
 have hmax : L.length ≤ 9223372036854775807 := HC4.out.2.1
 go_loopw [20] (fun u wr => ∃ k : Nat, k ≤ L.length ∧ u = .int .i64 k ∧ Aside0 (Var w wr (w.heap.size + 1 + 1) (w.heap.size + 1) name (fun s => s ∈ L.take k)) ∧ Aside0 (Kd.R Kd.string 9 wr w.heap.size (fun k => w.heap.size + 2 < k) (.slice A4 L.length c4) L)) (fun u _ => L.length - (intOf u).toNat)
 case atStart => exact ⟨0, Nat.zero_le _, rfl, ⟨by simpa using HV4.out⟩, HR4⟩
 case round =>
  obtain ⟨k, hk, rfl, HR, HRow⟩ := hrel
  by_cases hlt : k < L.length
  ·obtain ⟨A5, c5, he5, _, hC5⟩ := Kd.R_reads HRow.out
   obtain ⟨rfl, rfl⟩ : A4 = A5 ∧ c4 = c5 := by simpa using he5
   obtain ⟨ad, e0, hx⟩ := Kd.at_string hC5 (k : Int) (by omega) (by omega)
   have hget : rdOf ByteArray.empty L (k : Int) = L[k] := by simp [rdOf, hlt]
   simp only [hget, Int.toNat_natCast] at hx
   cases e0
   obtain ⟨x, hxx⟩ : ∃ x, x = L[k] := ⟨_, rfl⟩
   rw [← hxx] at hx
   have hxok : okS x := by
    have hr : MClose.Reach (near ++ far) name x := (HS4.out x).1 (by rw [hxx]; exact List.getElem_mem hlt)
    rcases reach_in hr with e | h
    ·rw [e]; exact HX.out
    ·obtain ⟨q, hq, e⟩ := List.mem_map.1 h
     rw [← e]; exact (HOK.out q hq).2
   have HXO := jA hxok
   have HXX := jA hxx
   clear hC5 hget hxx hxok he5
   have hmv : wr.cell? ⟨w.heap.size + 1 + 1, 2, none⟩ = some (.map (some (w.heap.size + 1))) := by rw [cell_of_row _ _ _ _ _ _ HR.out.var]; rfl
   obtain ⟨f, n, hM, hf⟩ := HR.out.set
   obtain ⟨w5, hrun, hM5, hg5⟩ := hM.update str_key Tryz.underlying220 HXO.out ()
   have Za : (Instr.mapUpdate 220 (.map (some (w.heap.size + 1))) (.string x) (.agg #[])).run Tryz.prog wr = .ok () w5 := hrun
   have c0' : (k : Int) < L.length := by omega
   have HM5 := jA hM5
   have HG5 := jA hg5
   have HF := jA hf
   clear hM hM5 hg5 hrun hf
   go_wp2
   go_roundw
   case rel =>
    refine ⟨k + 1, by omega, by go_num, ⟨HR.out.put HM5.out HG5.out ?_⟩, ⟨Kd.R_grown HRow.out HG5.out (fun k hk e => by cases e; omega)⟩⟩
    intro s
    have hfs := HF.out s
    simp only [] at hfs
    rw [List.take_succ_eq_append_getElem hlt, List.mem_append, List.mem_singleton, ← HXX.out, ← hfs]
    by_cases e : s = x
    ·subst e; simp [upd_same]
    ·rw [upd_other _ _ e]; simp [e]
   case measure => simp [intOf]; omega
  ·have hkk : k = L.length := by omega
   subst hkk
   have hV := HR.out
   rw [List.take_length] at hV
   have HV6 := jA hV
   clear HR hV
   have hrange : wr.rangeAt (w.heap.size + 1 + 1) 0 [.string name, .float .f64 0, .map (some (w.heap.size + 1))] := fun j v hv => by
    rw [cell_of_row _ _ _ _ _ _ HV6.out.var, Nat.zero_add, ← hv]; simp
   have hthere : wr.there w.heap.size 0 3 := fun j hj => by
    rw [cell_of_row _ _ _ _ _ _ HV6.out.rvar, Nat.zero_add]
    exact ⟨by simp [hj], MPut.frozen_of_row HV6.out.rvar _⟩
   have HRG := jA hrange
   have HTH := jA hthere
   clear hrange hthere
   go_wp2_with (first | ((with_reducible refine gate_dst (N := 29) rfl ?_); refine wpList_load_mid rfl 222 (.tmp 7) rfl (w.heap.size + 1 + 1) 0 ?hx [.string name, .float .f64 0, .map (some (w.heap.size + 1))] _ HRG.out Tryz.underlying222 rfl i95 ?_; (case hx => rfl); refine wpList_store_mid rfl 222 (.tmp 6) (.tmp 29) rfl w.heap.size 0 #[.string name, .float .f64 0, .map (some (w.heap.size + 1))] ?hx ?hy HTH.out i95 (by simp [Value.oneCell']) ?_; (case hx => rfl); (case hy => rfl)))
   obtain ⟨cur, h3, h4, h5⟩ := setCells_row [.string name, .float .f64 0, .map (some (w.heap.size + 1))] 0 wr _ HV6.out.rvar (by simp)
   have hcur : cur = #[.string name, .float .f64 0, .map (some (w.heap.size + 1))] := by
    apply Array.ext'
    rw [h5]
    simp
   subst hcur
   obtain ⟨s1, s2, s3, s4⟩ := setCells_same w.heap.size [.string name, .float .f64 0, .map (some (w.heap.size + 1))] 0 wr
   (try simp only [Exit.inBlock, Exit.then])
   refine bodyPost_ret (results_single rfl (.cell w.heap.size 222 _ (0, 0) _ rfl h3 Tryz.underlying222 rfl i95 .nil)) rfl ?_
   have hfar : ∀ k, k ≠ w.heap.size → (wr.setCells w.heap.size 0 [.string name, .float .f64 0, .map (some (w.heap.size + 1))]).heap[k]? = wr.heap[k]? := fun k hk => setCells_far _ _ k hk
   obtain ⟨f, n, hM, hf⟩ := HV6.out.set
   refine ⟨_, rfl, ⟨f, n, hM.move (hfar _ (by omega)), fun s => (hf s).trans (HS4.out s)⟩, by omega, ⟨s1.trans HV6.out.below.os, s2.trans HV6.out.below.tape, s3.trans HV6.out.below.output, by rw [s4]; exact HV6.out.below.size, fun k hk => (hfar k (by omega)).trans (HV6.out.below.block k hk)⟩⟩
end Go.Proofs.YtdgkppldopiaoaaGreat.MStand
/- mean: a side's names, who speaks. -/
namespace Go.Proofs.YtdgkppldopiaoaaGreat.MSide
open Go.RowKit YtdgkppldopiaoaaGreatW.PrintWords YtdgkppldopiaoaaGreatW.PrintLast YtdgkppldopiaoaaGreatW.PrintMore BMap BRow MLines MPut MClose MConcat MStand Go.Maps
open PG YtdgkppldopiaoaaGreatF
theorem wpList_load_blk {P : Program} {w : World} {ops : Array Oper} {rest : List Oper} {op : Oper} {a : Act} {Q : Exit → Act → World → Prop} (hgd : op.guard = none) (ty : TypeId) (x : Operand) (ho : op.op = .load ty x) (g : Nat) (hx : a.eval x = .pointer (some ⟨g, 0, none⟩))
  (cs : Array Value) (t : TypeId) (hg : w.heap[g]? = some (.cells cs t (0, 0))) (d : TypeDesc) (hu : P.underlying ty = some d) (hd : d.isRow = true) (hi : (P.info? ty).map (·.size) = some cs.size) (h : wpList P ops Q rest (a.put op.dst (.agg cs)) w) : wpList P ops Q (op :: rest) a w := by
 refine wpList_load_mid hgd ty x ho g 0 hx cs.toList d (fun j v hv => ?_) hu hd (by simpa using hi) (by simpa using h)
 rw [cell_of_row _ _ _ _ _ _ hg, Nat.zero_add, ← hv]; simp
open Classical in
theorem has_calls (nm : ByteArray) (tr b : Nat) (s : ByteArray) (R : ByteArray → Prop) (w : World) (hS : IsSet w b R) (hs : okS s) :
  Calls Tryz.prog 130 #[.agg #[.string nm, .float .f64 tr, .map (some b)], .string s] w fun e w' => e = .returned (.bool (decide (R s))) ∧ Below w.heap.size w w' := by
 obtain ⟨f, n, hM, hf⟩ := hS
 have hlk := (hM.alloc (.cells #[.string nm, .float .f64 tr, .map (some b)] 222)).lookup str_key Tryz.underlying220 (z243 _) hs true
 have hz : ∀ w, (zeroValue 243).run Tryz.prog w = .ok (.agg #[]) w := z243
 have hu := Tryz.underlying243
 have hr : (f s).isSome = decide (R s) := by rw [Bool.eq_iff_iff, decide_eq_true_iff]; exact hf s
 have hv : ((f s).map unitV).getD (.agg #[]) = .agg #[] := by cases f s <;> rfl
 rw [hv, hr] at hlk
 simp only [if_true] at hlk
 clear hM hf hr hv
 go_enter Tryz.func130, Tryz.ntmps130
 go_wp2
 go_ret
 exact ⟨rfl, by repeat (first | exact Below.refl _ _ | refine below_alloc ?_ _)⟩
def passB (r : S148) (tr : Nat) : Bool := if r.f4 = 0 then true else if r.f4 = 1 then flt_ge tr r.f5 else if r.f4 = 2 then flt_lt tr r.f5 else false
theorem passes_f (r : S148) (tr : Nat) : mean_Passes.f r.f0 r.f1 r.f2 r.f3 r.f4 r.f5 tr = some (passB r tr) := by
 unfold mean_Passes.f passB
 split
 ·rfl
 ·split
  ·rfl
  ·split <;> rfl
def ruleV (r : S148) (A3 : Option Addr) (c3 : Nat) : Array Value := #[.bool r.f0, .string r.f1, .string r.f2, .slice A3 r.f3.length c3, .int .i8 r.f4, .float .f64 r.f5]
theorem passes_calls (r : S148) (A3 : Option Addr) (c3 : Nat) (tr : Nat) (w : World) (h : Kd.C Kd.string w A3 r.f3.length r.f3) (hc : r.f3.length ≤ c3) :
  Calls Tryz.prog 131 #[.agg (ruleV r A3 c3), .float .f64 tr] w fun e w' => e = .returned (.bool (passB r tr)) ∧ Below w.heap.size w w' :=
 mean_Passes.calls r.f0 r.f1 r.f2 A3 c3 r.f3 r.f4 r.f5 tr (passB r tr) w h hc (passes_f r tr)
def Stays (w : World) (g : Nat) (cs : Array Value) (t : TypeId) : Prop := w.heap[g]? = some (.cells cs t (0, 0))
theorem Stays.below {w w1 : World} {g : Nat} {cs : Array Value} {t : TypeId} (h : Stays w g cs t) (hb : Below w.heap.size w w1) : Stays w1 g cs t := (hb.block _ (Array.getElem?_eq_some_iff.1 h).1).trans h
theorem Stays.cell {w : World} {g : Nat} {cs : Array Value} {t : TypeId} (h : Stays w g cs t) (j : Nat) : w.cell? ⟨g, j, none⟩ = cs[j]? := cell_of_row _ _ _ _ _ _ h
open Classical in
noncomputable def speaksB (r : S148) (Rs Ro : ByteArray → Prop) (tr : Nat) : Bool := decide (Rs r.f1) && (decide (Ro r.f2) && passB r tr)
def sideV (nm : ByteArray) (tr b : Nat) : Array Value := #[.string nm, .float .f64 tr, .map (some b)]
structure Three (w W : World) (r : S148) (A3 : Option Addr) (c3 : Nat) (n1 : ByteArray) (t1 b1 : Nat) (R1 : ByteArray → Prop) (n2 : ByteArray) (t2 b2 : Nat) (R2 : ByteArray → Prop) : Prop where
 below : Below w.heap.size w W
 s0 : Stays W w.heap.size (ruleV r A3 c3) 148
 s1 : Stays W (w.heap.size + 1) (sideV n1 t1 b1) 222
 s2 : Stays W (w.heap.size + 1 + 1) (sideV n2 t2 b2) 222
 set1 : IsSet W b1 R1
 set2 : IsSet W b2 R2
 row : Kd.C Kd.string W A3 r.f3.length r.f3
theorem Three.move {w W W1 : World} {r : S148} {A3 : Option Addr} {c3 : Nat} {n1 : ByteArray} {t1 b1 : Nat} {R1 : ByteArray → Prop} {n2 : ByteArray} {t2 b2 : Nat} {R2 : ByteArray → Prop} (h : Three w W r A3 c3 n1 t1 b1 R1 n2 t2 b2 R2) (hb : Below W.heap.size W W1) : Three w W1 r A3 c3 n1 t1 b1 R1 n2 t2 b2 R2 :=
 ⟨below_then h.below h.below.size hb, h.s0.below hb, h.s1.below hb, h.s2.below hb, h.set1.below hb, h.set2.below hb, Kd.C_below h.row hb⟩
theorem i78 : (Tryz.prog.info? 148).map (·.size) = some 6 := by kernel_rfl
theorem has_go (nm : ByteArray) (tr b : Nat) (s : ByteArray) (R : ByteArray → Prop) (w : World) (q : Bool) (hq : (open Classical in decide (R s)) = q) (hS : IsSet w b R) (hs : okS s) :
  Calls Tryz.prog 130 #[.agg #[.string nm, .float .f64 tr, .map (some b)], .string s] w fun e w' => e = .returned (.bool q) ∧ Below w.heap.size w w' := by
 subst hq; exact has_calls nm tr b s R w hS hs
theorem passes_go (r : S148) (A3 : Option Addr) (c3 : Nat) (tr : Nat) (w : World) (q : Bool) (hq : passB r tr = q) (h : Kd.C Kd.string w A3 r.f3.length r.f3) (hc : r.f3.length ≤ c3) :
  Calls Tryz.prog 131 #[.agg #[.bool r.f0, .string r.f1, .string r.f2, .slice A3 r.f3.length c3, .int .i8 r.f4, .float .f64 r.f5], .float .f64 tr] w fun e w' => e = .returned (.bool q) ∧ Below w.heap.size w w' := by
 subst hq; exact passes_calls r A3 c3 tr w h hc
theorem speaks_calls (r : S148) (A3 : Option Addr) (c3 : Nat) (n1 : ByteArray) (t1 b1 : Nat) (R1 : ByteArray → Prop) (n2 : ByteArray) (t2 b2 : Nat) (R2 : ByteArray → Prop) (w : World)
  (hC : Kd.C Kd.string w A3 r.f3.length r.f3) (hc : r.f3.length ≤ c3) (h1 : IsSet w b1 R1) (h2 : IsSet w b2 R2) (o1 : okS r.f1) (o2 : okS r.f2) :
  Calls Tryz.prog 122 #[.agg (ruleV r A3 c3), .agg (sideV n1 t1 b1), .agg (sideV n2 t2 b2)] w fun e w' => e = .returned (.bool (speaksB r R1 R2 t1)) ∧ Below w.heap.size w w' := by
 have HCC := jA hc
 have O1 := jA o1
 have O2 := jA o2
 have hT : Three w (((w.alloc (.cells (ruleV r A3 c3) 148)).alloc (.cells (sideV n1 t1 b1) 222)).alloc (.cells (sideV n2 t2 b2) 222)) r A3 c3 n1 t1 b1 R1 n2 t2 b2 R2 := by
  have hb1 : Below w.heap.size w (w.alloc (.cells (ruleV r A3 c3) 148)) := below_alloc (Below.refl _ _) _
  have hb2 := below_alloc hb1 (.cells (sideV n1 t1 b1) 222)
  have hb3 := below_alloc hb2 (.cells (sideV n2 t2 b2) 222)
  have e1 := heap_alloc_new (w.alloc (.cells (ruleV r A3 c3) 148)) (.cells (sideV n1 t1 b1) 222)
  have e2 := heap_alloc_new ((w.alloc (.cells (ruleV r A3 c3) 148)).alloc (.cells (sideV n1 t1 b1) 222)) (.cells (sideV n2 t2 b2) 222)
  rw [World.size_alloc] at e1
  rw [World.size_alloc, World.size_alloc] at e2
  exact ⟨hb3, (Below.heap_alloc _ _ _ (by simp only [World.size_alloc]; omega)).trans ((Below.heap_alloc _ _ _ (by simp only [World.size_alloc]; omega)).trans (heap_alloc_new w _)), (Below.heap_alloc _ _ _ (by simp only [World.size_alloc]; omega)).trans e1, e2, h1.below hb3, h2.below hb3, Kd.C_below hC hb3⟩
 have HT := jA hT
 clear hC hc h1 h2 o1 o2 hT
 obtain ⟨q1, hq1⟩ : ∃ q, (open Classical in decide (R1 r.f1)) = q := ⟨_, rfl⟩
 obtain ⟨q2, hq2⟩ : ∃ q, (open Classical in decide (R2 r.f2)) = q := ⟨_, rfl⟩
 obtain ⟨q3, hq3⟩ : ∃ q, passB r t1 = q := ⟨_, rfl⟩
 have hres : speaksB r R1 R2 t1 = (q1 && (q2 && q3)) := by unfold speaksB; rw [hq1, hq2, hq3]
 rw [hres]
 have Q1 := jA hq1
 have Q2 := jA hq2
 have Q3 := jA hq3
 clear hq1 hq2 hq3 hres
 have X := HT.out
 have za0 := X.s0.cell 0
 have za1 := X.s0.cell 1
 have za2 := X.s0.cell 2
 have za3 := X.s0.cell 3
 have za4 := X.s0.cell 4
 have za5 := X.s0.cell 5
 have zb0 := X.s1.cell 0
 have zd0 := X.s2.cell 0
 have zb1 := X.s1.cell 1
 have zd1 := X.s2.cell 1
 have zb2 := X.s1.cell 2
 have zd2 := X.s2.cell 2
 simp only [ruleV, sideV, Jt, Ju, Jv] at za0 za1 za2 za3 za4 za5 zb0 zd0 zb1 zd1 zb2 zd2
 clear X
 unfold ruleV sideV at HT ⊢
 cases q1 <;> cases q2
 all_goals go_enter Tryz.func122, Tryz.ntmps122
 all_goals go_wp2_with (first | (go_at_call 130; (with_reducible refine (has_go n1 t1 b1 r.f1 R1 _ _ Q1.out HT.out.set1 O1.out).mono ?_); rintro e w' ⟨rfl, hb⟩; have X := HT.out.move hb; clear hb HT za0 za1 za2 za3 za4 za5 zb0 zd0 zb1 zd1 zb2 zd2; have za0 := X.s0.cell 0; have za1 := X.s0.cell 1; have za2 := X.s0.cell 2; have za3 := X.s0.cell 3; have za4 := X.s0.cell 4; have za5 := X.s0.cell 5; have zb0 := X.s1.cell 0; have zd0 := X.s2.cell 0; have zb1 := X.s1.cell 1; have zd1 := X.s2.cell 1; have zb2 := X.s1.cell 2; have zd2 := X.s2.cell 2; simp only [ruleV, sideV, Jt, Ju, Jv] at za0 za1 za2 za3 za4 za5 zb0 zd0 zb1 zd1 zb2 zd2; have HT := jA X; clear X) | (go_at_call 130; (with_reducible refine (has_go n2 t2 b2 r.f2 R2 _ _ Q2.out HT.out.set2 O2.out).mono ?_); rintro e w' ⟨rfl, hb⟩; have X := HT.out.move hb; clear hb HT za0 za1 za2 za3 za4 za5 zb0 zd0 zb1 zd1 zb2 zd2; have za0 := X.s0.cell 0; have za1 := X.s0.cell 1; have za2 := X.s0.cell 2; have za3 := X.s0.cell 3; have za4 := X.s0.cell 4; have za5 := X.s0.cell 5; have zb0 := X.s1.cell 0; have zd0 := X.s2.cell 0; have zb1 := X.s1.cell 1; have zd1 := X.s2.cell 1; have zb2 := X.s1.cell 2; have zd2 := X.s2.cell 2; simp only [ruleV, sideV, Jt, Ju, Jv] at za0 za1 za2 za3 za4 za5 zb0 zd0 zb1 zd1 zb2 zd2; have HT := jA X; clear X) | (go_at_call 131; (with_reducible refine (passes_go r A3 c3 t1 _ _ Q3.out HT.out.row HCC.out).mono ?_); rintro e w' ⟨rfl, hb⟩; have X := HT.out.move hb; clear hb HT za0 za1 za2 za3 za4 za5 zb0 zd0 zb1 zd1 zb2 zd2; have za0 := X.s0.cell 0; have za1 := X.s0.cell 1; have za2 := X.s0.cell 2; have za3 := X.s0.cell 3; have za4 := X.s0.cell 4; have za5 := X.s0.cell 5; have zb0 := X.s1.cell 0; have zd0 := X.s2.cell 0; have zb1 := X.s1.cell 1; have zd1 := X.s2.cell 1; have zb2 := X.s1.cell 2; have zd2 := X.s2.cell 2; simp only [ruleV, sideV, Jt, Ju, Jv] at za0 za1 za2 za3 za4 za5 zb0 zd0 zb1 zd1 zb2 zd2; have HT := jA X; clear X))
 all_goals go_ret
 all_goals exact ⟨rfl, HT.out.below⟩
end Go.Proofs.YtdgkppldopiaoaaGreat.MSide
/- The plain side of Valid: what the printed functions (once, counted, the document's Valid) come to, in plain words over lists. -/
namespace Go.Proofs.YtdgkppldopiaoaaGreat.VPure
open Go.RowKit PG YtdgkppldopiaoaaGreatW.PrintWords YtdgkppldopiaoaaGreatW.PrintMore
theorem w64 {i : Int} (h0 : -9223372036854775808 ≤ i) (h1 : i ≤ 9223372036854775807) : wrap64 i = i := by unfold wrap64; omega
theorem w64n {n m : Nat} (h : n < m) (hm : m ≤ 9223372036854775807) : wrap64 ((n : Int) + 1) = ((n + 1 : Nat) : Int) := by unfold wrap64; omega
theorem rdOf_get {α : Type} (d : α) (l : List α) (n : Nat) (h : n < l.length) : rdOf d l (n : Int) = l[n] := by simp [rdOf, h]
theorem rd_get (l : List Int) (n : Nat) (h : n < l.length) : rd l (n : Int) = l[n] := by simp [rd, h]
def nm (l : List ByteArray) : List (List UInt8) := l.map ByteArray.toList
def pos : List ByteArray → ByteArray → Nat → Int
 | [], _, _ => -1
 | x :: r, s, n => if x.toList = s.toList then n else pos r s (n + 1)
theorem pos_range : ∀ (l : List ByteArray) (s : ByteArray) (n : Nat), pos l s n = -1 ∨ ((n : Int) ≤ pos l s n ∧ pos l s n < n + l.length)
 | [], _, _ => .inl rfl
 | x :: r, s, n => by
  simp only [pos]
  split
  ·right; simp; omega
  ·rcases pos_range r s (n + 1) with h | h
   ·exact .inl h
   ·right; simp at h ⊢; omega
theorem pos_mem : ∀ (l : List ByteArray) (s : ByteArray) (n : Nat), 0 ≤ pos l s n ↔ s.toList ∈ nm l
 | [], s, n => by simp [pos, nm]
 | x :: r, s, n => by
  simp only [pos, nm, List.map_cons, List.mem_cons]
  split
  ·rename_i h; simp [h]
  ·rename_i h
   rw [pos_mem r s (n + 1)]
   simp [nm, eq_comm, h]
theorem index_ev (l : List ByteArray) (s : ByteArray) (hl : l.length ≤ 9223372036854775807) : ∀ (d n : Nat), n + d = l.length → Ev (fun k => slices_Index_string_string.l0 k l s l.length n) (pos (l.drop n) s n)
 | 0, n, h => by
  rw [List.drop_eq_nil_of_le (by omega)]
  refine Ev.step (f := fun _ => some (-1)) (fun k => ?_) (Ev.now _)
  simp only [slices_Index_string_string.l0]
  rw [if_neg (by omega)]
 | d + 1, n, h => by
  have hlt : n < l.length := by omega
  rw [List.drop_eq_getElem_cons hlt]
  simp only [pos]
  by_cases he : l[n].toList = s.toList
  ·rw [if_pos he]
   refine Ev.step (f := fun _ => some (n : Int)) (fun k => ?_) (Ev.now _)
   simp only [slices_Index_string_string.l0]
   rw [if_pos (by omega), if_pos (by omega), if_pos (by omega), rdOf_get _ _ _ hlt, if_pos he.symm]
  ·rw [if_neg he]
   refine Ev.step (fun k => ?_) (index_ev l s hl d (n + 1) (by omega))
   simp only [slices_Index_string_string.l0]
   rw [if_pos (by omega), if_pos (by omega), if_pos (by omega), rdOf_get _ _ _ hlt, if_neg (fun e => he e.symm), w64n hlt hl]
theorem index_f (l : List ByteArray) (s : ByteArray) (hl : l.length ≤ 9223372036854775807) : Ev (fun k => slices_Index_string_string.f k l s) (pos l s 0) := index_ev l s hl l.length 0 (by omega)
theorem contains_f (l : List ByteArray) (s : ByteArray) (hl : l.length ≤ 9223372036854775807) : Ev (fun k => slices_Contains_string_string.f k l s) (decide (s.toList ∈ nm l)) := by
 refine Ev.bind (f := fun _ t => some (decide (t ≥ 0))) (index_f l s hl) ?_
 have : decide (pos l s 0 ≥ 0) = decide (s.toList ∈ nm l) := decide_eq_decide.2 (pos_mem l s 0)
 rw [this]
 exact Ev.now _
def onceB (l : List ByteArray) : Bool := decide (nm l).Nodup
theorem once_ev (l : List ByteArray) (hl : l.length ≤ 9223372036854775807) : ∀ (d n : Nat), n + d = l.length → ((nm l).take n).Nodup → Ev (fun k => graph_once.l0 k l l l.length n) (onceB l)
 | 0, n, h, hn => by
  refine Ev.step (f := fun _ => some true) (fun k => ?_) ?_
  ·simp only [graph_once.l0]
   rw [if_neg (by omega)]
  ·have : onceB l = true := by
    rw [List.take_of_length_le (by simp [nm]; omega)] at hn
    simpa [onceB] using hn
   rw [this]; exact Ev.now _
 | d + 1, n, h, hn => by
  have hlt : n < l.length := by omega
  have hln : n < (nm l).length := by simpa [nm] using hlt
  have hgn : (nm l)[n] = l[n].toList := by simp [nm]
  have htk : nm (l.take n) = (nm l).take n := by simp [nm, List.map_take]
  refine Ev.step (f := fun k => (slices_Contains_string_string.f k (l.take n) l[n]).bind fun t => if t = true then some false else graph_once.l0 k l l l.length ((n + 1 : Nat) : Int)) (fun k => ?_) ?_
  ·simp only [graph_once.l0]
   rw [if_pos (by omega), if_pos (by omega), if_pos (by omega), if_pos (by omega), rdOf_get _ _ _ hlt, w64n hlt hl, Int.toNat_natCast]
  ·refine Ev.bind (f := fun k t => if t = true then some false else graph_once.l0 k l l l.length ((n + 1 : Nat) : Int)) (contains_f (l.take n) l[n] (by simp; omega)) ?_
   rw [htk]
   by_cases hm : l[n].toList ∈ (nm l).take n
   ·simp only [hm, decide_true, if_true]
    have : onceB l = false := by
     simp only [onceB, decide_eq_false_iff_not]
     intro hnd
     obtain ⟨i, hi, he⟩ := List.getElem_of_mem hm
     rw [List.getElem_take] at he
     simp at hi
     have := (List.getElem_inj hnd).1 (he.trans hgn.symm)
     omega
    rw [this]; exact Ev.now _
   ·simp only [hm, decide_false, Bool.false_eq_true, if_false]
    refine once_ev l hl d (n + 1) (by omega) ?_
    rw [List.take_succ_eq_append_getElem hln, List.nodup_append]
    refine ⟨hn, by simp, ?_⟩
    intro a ha b hb e
    simp at hb
    subst hb
    subst e
    rw [hgn] at ha
    exact hm ha
theorem once_f (l : List ByteArray) (hl : l.length ≤ 9223372036854775807) : Ev (fun k => graph_once.f k l) (onceB l) := once_ev l hl l.length 0 (by omega) (by simp)
def great : Int → List Int → Option Int
 | n, [] => some n
 | n, x :: r => if x < 1 ∨ x > n + 1 then none else great (max n x) r
def told (o : Option Int) : Int × Bool := (o.getD 0, o.isSome)
theorem counted_ev (l : List Int) (hl : l.length ≤ 9223372036854775807) : ∀ (d n : Nat) (g : Int), n + d = l.length → 0 ≤ g → g ≤ n → Ev (fun k => graph_counted.l0 k g l l.length n) (told (great g (l.drop n)))
 | 0, n, g, h, h0, h1 => by
  rw [List.drop_eq_nil_of_le (by omega)]
  refine Ev.step (f := fun _ => some (g, true)) (fun k => ?_) (Ev.now _)
  simp only [graph_counted.l0]
  rw [if_neg (by omega)]
 | d + 1, n, g, h, h0, h1 => by
  have hlt : n < l.length := by omega
  rw [List.drop_eq_getElem_cons hlt]
  simp only [great]
  by_cases he : l[n] < 1 ∨ l[n] > g + 1
  ·rw [if_pos he]
   refine Ev.step (f := fun _ => some (0, false)) (fun k => ?_) (Ev.now _)
   simp only [graph_counted.l0]
   rw [if_pos (by omega), if_pos (by omega), if_pos (by omega), rd_get _ _ hlt, w64 (i := g + 1) (by omega) (by omega)]
   by_cases h2 : l[n] < 1
   ·rw [if_pos h2]
   ·rw [if_neg h2, if_pos (by omega)]
  ·rw [if_neg he]
   refine Ev.step (fun k => ?_) (counted_ev l hl d (n + 1) (max g l[n]) (by omega) (by omega) (by omega))
   simp only [graph_counted.l0]
   rw [if_pos (by omega), if_pos (by omega), if_pos (by omega), rd_get _ _ hlt, w64 (i := g + 1) (by omega) (by omega), if_neg (by omega), if_neg (by omega), w64n hlt hl]
   have : mx g l[n] = max g l[n] := by unfold mx; omega
   rw [this]
theorem counted_f (l : List Int) (hl : l.length ≤ 9223372036854775807) : Ev (fun k => graph_counted.f k l) (told (great 0 l)) := counted_ev l hl l.length 0 0 (by omega) (by omega) (by omega)
theorem great_le : ∀ (l : List Int) (g m : Int), great g l = some m → 0 ≤ g → g ≤ m ∧ m ≤ g + l.length
 | [], g, m, h, _ => by simp [great] at h; subst h; simp
 | x :: r, g, m, h, h0 => by
  simp only [great] at h
  split at h
  ·cases h
  ·have := great_le r _ _ h (by omega)
   simp; omega
end Go.Proofs.YtdgkppldopiaoaaGreat.VPure
/- A policy in a call's arguments; mean.subject, mean.object, mean.about. -/
namespace Go.Proofs.YtdgkppldopiaoaaGreat.MPol
open Go.RowKit YtdgkppldopiaoaaGreatW.PrintWords YtdgkppldopiaoaaGreatW.PrintLast YtdgkppldopiaoaaGreatW.PrintMore BMap BRow MLines MPut MClose MConcat MStand MSide Go.Maps
open PG YtdgkppldopiaoaaGreatF
structure PolD where
 acts : List ByteArray
 subs : List S146
 roles : List ByteArray
 objs : List ByteArray
 grps : List ByteArray
 mem : List S242
 inh : List S242
 par : List S242
 wit : List S242
 rules : List S148
 exc : List S89
structure Pol where
 d : PolD
 A0 : Option Addr
 c0 : Nat
 A1 : Option Addr
 c1 : Nat
 A2 : Option Addr
 c2 : Nat
 A3 : Option Addr
 c3 : Nat
 A4 : Option Addr
 c4 : Nat
 A5 : Option Addr
 c5 : Nat
 A6 : Option Addr
 c6 : Nat
 A7 : Option Addr
 c7 : Nat
 A8 : Option Addr
 c8 : Nat
 A9 : Option Addr
 c9 : Nat
 A10 : Option Addr
 c10 : Nat
def Pol.cells (p : Pol) : Array Value := #[.slice p.A0 p.d.acts.length p.c0, .slice p.A1 p.d.subs.length p.c1, .slice p.A2 p.d.roles.length p.c2, .slice p.A3 p.d.objs.length p.c3, .slice p.A4 p.d.grps.length p.c4, .slice p.A5 p.d.mem.length p.c5, .slice p.A6 p.d.inh.length p.c6, .slice p.A7 p.d.par.length p.c7, .slice p.A8 p.d.wit.length p.c8, .slice p.A9 p.d.rules.length p.c9, .slice p.A10 p.d.exc.length p.c10]
structure Pol.In (p : Pol) (w : World) : Prop where
 h0 : Kd.C Kd.string w p.A0 p.d.acts.length p.d.acts
 h1 : Kd.C k146 w p.A1 p.d.subs.length p.d.subs
 h2 : Kd.C Kd.string w p.A2 p.d.roles.length p.d.roles
 h3 : Kd.C Kd.string w p.A3 p.d.objs.length p.d.objs
 h4 : Kd.C Kd.string w p.A4 p.d.grps.length p.d.grps
 h5 : Kd.C k242 w p.A5 p.d.mem.length p.d.mem
 h6 : Kd.C k242 w p.A6 p.d.inh.length p.d.inh
 h7 : Kd.C k242 w p.A7 p.d.par.length p.d.par
 h8 : Kd.C k242 w p.A8 p.d.wit.length p.d.wit
 h9 : Kd.C k148 w p.A9 p.d.rules.length p.d.rules
 h10 : Kd.C k89 w p.A10 p.d.exc.length p.d.exc
 l0 : p.d.acts.length ≤ p.c0
 l1 : p.d.subs.length ≤ p.c1
 l2 : p.d.roles.length ≤ p.c2
 l3 : p.d.objs.length ≤ p.c3
 l4 : p.d.grps.length ≤ p.c4
 l5 : p.d.mem.length ≤ p.c5
 l6 : p.d.inh.length ≤ p.c6
 l7 : p.d.par.length ≤ p.c7
 l8 : p.d.wit.length ≤ p.c8
 l9 : p.d.rules.length ≤ p.c9
 l10 : p.d.exc.length ≤ p.c10
theorem Pol.In.below {p : Pol} {w w1 : World} (h : p.In w) (hb : Below w.heap.size w w1) : p.In w1 :=
 ⟨Kd.C_below h.h0 hb, Kd.C_below h.h1 hb, Kd.C_below h.h2 hb, Kd.C_below h.h3 hb, Kd.C_below h.h4 hb, Kd.C_below h.h5 hb, Kd.C_below h.h6 hb, Kd.C_below h.h7 hb, Kd.C_below h.h8 hb, Kd.C_below h.h9 hb, Kd.C_below h.h10 hb, h.l0, h.l1, h.l2, h.l3, h.l4, h.l5, h.l6, h.l7, h.l8, h.l9, h.l10⟩
structure PolD.Ok (d : PolD) : Prop where
 subs : ∀ s ∈ d.subs, okS s.f0
 objs : ∀ s ∈ d.objs, okS s
 acts : ∀ s ∈ d.acts, okS s
 mem : ∀ q ∈ d.mem, okS q.f0 ∧ okS q.f1
 inh : ∀ q ∈ d.inh, okS q.f0 ∧ okS q.f1
 par : ∀ q ∈ d.par, okS q.f0 ∧ okS q.f1
 wit : ∀ q ∈ d.wit, okS q.f0 ∧ okS q.f1
 rules : ∀ r ∈ d.rules, okS r.f1 ∧ okS r.f2
 lmem : d.mem.length ≤ 4398046510976
 linh : d.inh.length ≤ 4398046510976
 lpar : d.par.length ≤ 4398046510976
 lwit : d.wit.length ≤ 4398046510976
 lrules : d.rules.length ≤ 1759218604390
def PolD.who (d : PolD) (s : ByteArray) : ByteArray → Prop := MClose.Reach (d.mem ++ d.inh) s
def PolD.what (d : PolD) (o : ByteArray) : ByteArray → Prop := MClose.Reach (d.par ++ d.wit) o
def PolD.trust (d : PolD) (s : ByteArray) : Option Nat := (d.subs.find? (fun x => decide (x.f0 = s))).map (·.f1)
def noneV : Array Value := #[.string ⟨#[]⟩, .float .f64 0, .map none]
section
variable {w w0 : World} {g g' t t' : Nat} {cs vs : Array Value}
theorem Stays.there (h : Stays w g cs t) : w.there g 0 cs.size := fun j hj => by
 rw [h.cell, Nat.zero_add]
 exact ⟨by simp [hj], MPut.frozen_of_row h _⟩
theorem setCells_var (h : Stays w g cs t) (hl : vs.size = cs.size) : Stays (w.setCells g 0 vs.toList) g vs t := by
 obtain ⟨cur, h3, h4, h5⟩ := setCells_row vs.toList 0 w _ h (by simp [hl])
 have hcur : cur = vs := by
  apply Array.ext'
  rw [h5]
  simp [hl]
 rw [hcur] at h3
 exact h3
theorem setCells_below {B : Nat} (h : Below B w0 w) (hg : B ≤ g) (l : List Value) : Below B w0 (w.setCells g 0 l) := by
 obtain ⟨s1, s2, s3, s4⟩ := setCells_same g l 0 w
 exact ⟨s1.trans h.os, s2.trans h.tape, s3.trans h.output, by rw [s4]; exact h.size, fun k hk => (setCells_far l 0 k (by omega)).trans (h.block k hk)⟩
theorem setCells_set {b : Nat} {R : ByteArray → Prop} (h : IsSet w b R) (hne : b ≠ g) (l : List Value) : IsSet (w.setCells g 0 l) b R := by
 obtain ⟨f, n, hM, hf⟩ := h
 exact ⟨f, n, hM.move (setCells_far l 0 b hne), hf⟩
theorem wpList_store_var {P : Program} {ops : Array Oper} {rest : List Oper} {op : Oper} {a : Act} {Q : Exit → Act → World → Prop} (hgd : op.guard = none) (ty : TypeId) (x y : Operand) (ho : op.op = .store ty x y) (g : Nat) (L : Array Value)
  (hx : a.eval x = .pointer (some ⟨g, 0, none⟩)) (hy : a.eval y = .agg L) (hS : Stays w g cs t) (hl : L.size = cs.size) (hi : (P.info? ty).map (·.size) = some L.size) (h1 : L.all (·.oneCell') = true)
  (h : wpList P ops Q rest (a.put op.dst undef) (w.setCells g 0 L.toList)) : wpList P ops Q (op :: rest) a w :=
 wpList_store_mid hgd ty x y ho g 0 L hx hy (by rw [hl]; exact Stays.there hS) hi h1 h
end
theorem mem_nm (l : List ByteArray) (s : ByteArray) : s.toList ∈ VPure.nm l ↔ s ∈ l := by
 unfold VPure.nm
 rw [List.mem_map]
 constructor
 ·rintro ⟨x, hx, e⟩
  rw [ByteArray.toList_eq, ByteArray.toList_eq] at e
  rw [← ByteArray.ext (Array.toList_inj.mp e)]
  exact hx
 ·intro h; exact ⟨s, h, rfl⟩
open Classical in
theorem contains_go (A : Option Addr) (c : Nat) (l : List ByteArray) (s : ByteArray) (w : World) (q : Bool) (hq : decide (s ∈ l) = q) (hC : Kd.C Kd.string w A l.length l) (hc : l.length ≤ c) :
  Calls Tryz.prog 108 #[.slice A l.length c, .string s] w fun e w' => e = .returned (.bool q) ∧ Below w.heap.size w w' := by
 obtain ⟨k, hk⟩ := (VPure.contains_f l s hC.2.1).rounds
 refine (slices_Contains_string_string.calls k A c l s _ w hC hc hk).mono ?_
 rintro e w' ⟨rfl, hd⟩
 refine ⟨?_, hd.below⟩
 rw [← hq]
 have := mem_nm l s
 congr 2
 rw [Bool.eq_iff_iff, decide_eq_true_iff, decide_eq_true_iff]
 exact this
structure Two (p : Pol) (w W : World) (v : Array Value) : Prop where
 below : Below w.heap.size w W
 s0 : Stays W w.heap.size p.cells 82
 s1 : Stays W (w.heap.size + 1) v 222
theorem Two.move {p : Pol} {w W W1 : World} {v : Array Value} (h : Two p w W v) (hb : Below W.heap.size W W1) : Two p w W1 v := ⟨below_then h.below h.below.size hb, h.s0.below hb, h.s1.below hb⟩
theorem Two.start (p : Pol) (w : World) : Two p w ((w.alloc (.cells p.cells 82)).alloc (.cells noneV 222)) noneV := by
 have hb1 : Below w.heap.size w (w.alloc (.cells p.cells 82)) := below_alloc (Below.refl _ _) _
 have e1 := heap_alloc_new (w.alloc (.cells p.cells 82)) (.cells noneV 222)
 rw [World.size_alloc] at e1
 exact ⟨below_alloc hb1 _, (Below.heap_alloc _ _ _ (by simp only [World.size_alloc]; omega)).trans (heap_alloc_new w _), e1⟩
def SideOf (W : World) (q : Bool) (v : Array Value) (name : ByteArray) (trust : Nat) (R : ByteArray → Prop) : Prop := (q = true → ∃ b, v = sideV name trust b ∧ IsSet W b R) ∧ (q = false → v = noneV)
theorem SideOf.below {W W1 : World} {q : Bool} {v : Array Value} {name : ByteArray} {trust : Nat} {R : ByteArray → Prop} (h : SideOf W q v name trust R) (hb : Below W.heap.size W W1) : SideOf W1 q v name trust R :=
 ⟨fun e => by obtain ⟨b, e1, e2⟩ := h.1 e; exact ⟨b, e1, e2.below hb⟩, h.2⟩
theorem SideOf.size {W : World} {q : Bool} {v : Array Value} {name : ByteArray} {trust : Nat} {R : ByteArray → Prop} (h : SideOf W q v name trust R) : v.size = 3 := by
 cases q with
 | true => obtain ⟨b, rfl, _⟩ := h.1 rfl; rfl
 | false => rw [h.2 rfl]; rfl
theorem SideOf.one {W : World} {q : Bool} {v : Array Value} {name : ByteArray} {trust : Nat} {R : ByteArray → Prop} (h : SideOf W q v name trust R) : v.all (·.oneCell') = true := by
 cases q with
 | true => obtain ⟨b, rfl, _⟩ := h.1 rfl; simp [sideV, Value.oneCell']
 | false => rw [h.2 rfl]; simp [noneV, Value.oneCell']
open Classical in
theorem object_calls (p : Pol) (o : ByteArray) (w : World) (hp : p.In w) (hd : p.d.Ok) (ho : okS o) (q : Bool) (hq : decide (o ∈ p.d.objs) = q) :
  Calls Tryz.prog 113 #[.agg p.cells, .string o] w fun e w' => ∃ v, e = .returned (.tuple #[.agg v, .bool q]) ∧ SideOf w' q v o 0 (p.d.what o) ∧ Below w.heap.size w w' := by
 have HP := jA hp
 have HD := jA hd
 have HO := jA ho
 clear hd hp ho
 have hT := Two.start p w
 have HQ := jA hq
 have e3 := hT.s0.cell 3
 have e7 := hT.s0.cell 7
 have e8 := hT.s0.cell 8
 simp only [Pol.cells, Jt, Ju, Jv, noneV] at e3 e7 e8
 have HT := jA hT
 clear hT hq
 have hz := z222
 unfold Pol.cells
 unfold Pol.cells noneV at HT
 cases q with
 | false =>
  go_enter Tryz.func113, Tryz.ntmps113
  go_wp2_with (first | (go_at_call 108; (with_reducible refine (contains_go p.A3 p.c3 p.d.objs o _ _ HQ.out (HP.out.below HT.out.below).h3 HP.out.l3).mono ?_); rintro e w' ⟨rfl, hb⟩; have HT2 := jA (HT.out.move hb); clear hb) | ((with_reducible refine gate_store (t := 222) (p := 4) (v := .tmp 11) rfl ?_); refine wpList_store_var rfl 222 (.tmp 4) (.tmp 11) rfl (w.heap.size + 1) noneV ?hx ?hy HT2.out.s1 rfl i95 (by simp [noneV, Value.oneCell']) ?_; (case hx => rfl); (case hy => rfl)))
  (try simp only [Exit.inBlock, Exit.then])
  refine bodyPost_ret (results_ct rfl _ _ (w.heap.size + 1) 222 noneV (0, 0) _ rfl (setCells_var HT2.out.s1 rfl) Tryz.underlying222 rfl i95) rfl ?_
  exact ⟨noneV, rfl, ⟨fun e => (by cases e), fun _ => rfl⟩, setCells_below HT2.out.below (by omega) _⟩
 | true =>
  go_enter Tryz.func113, Tryz.ntmps113
  go_wp2_with (first | (go_at_call 108; (with_reducible refine (contains_go p.A3 p.c3 p.d.objs o _ _ HQ.out (HP.out.below HT.out.below).h3 HP.out.l3).mono ?_); rintro e w' ⟨rfl, hb⟩; have X := HT.out.move hb; clear hb e7 e8; have e7 := X.s0.cell 7; have e8 := X.s0.cell 8; simp only [Pol.cells, Jt, Ju, Jv] at e7 e8; have HT2 := jA X; clear X) | (go_at_call 121; (with_reducible refine (stand_calls o p.A7 p.c7 p.d.par p.A8 p.c8 p.d.wit _ (HP.out.below HT2.out.below).h7 (HP.out.below HT2.out.below).h8 HO.out (fun q hq => (List.mem_append.1 hq).elim (HD.out.par q) (HD.out.wit q)) (by have := HD.out.lpar; have := HD.out.lwit; omega)).mono ?_); rintro e w3 ⟨b, rfl, hS, hge, hb3⟩; have HT3 := jA (HT2.out.move hb3); have HS := jA hS; have HNE := jA (show b ≠ w.heap.size + 1 by have := (Array.getElem?_eq_some_iff.1 HT2.out.s1).1; omega); clear hS hge hb3) | ((with_reducible refine gate_store (t := 222) (p := 4) (v := .tmp 17) rfl ?_); refine wpList_store_var rfl 222 (.tmp 4) (.tmp 17) rfl (w.heap.size + 1) (sideV o 0 b) ?hx ?hy HT3.out.s1 rfl i95 (by simp [sideV, Value.oneCell']) ?_; (case hx => rfl); (case hy => rfl)))
  (try simp only [Exit.inBlock, Exit.then])
  refine bodyPost_ret (results_ct rfl _ _ (w.heap.size + 1) 222 (sideV o 0 b) (0, 0) _ rfl (setCells_var HT3.out.s1 rfl) Tryz.underlying222 rfl i95) rfl ?_
  exact ⟨sideV o 0 b, rfl, ⟨fun _ => ⟨b, rfl, setCells_set HS.out HNE.out _⟩, fun e => (by cases e)⟩, setCells_below HT3.out.below (by omega) _⟩
end Go.Proofs.YtdgkppldopiaoaaGreat.MPol
/- avc.Cache's at, walked. -/
namespace Go.Proofs.YtdgkppldopiaoaaGreat.RCat
open Go.RowKit YtdgkppldopiaoaaGreatW.PrintWords YtdgkppldopiaoaaGreatW.PrintLast YtdgkppldopiaoaaGreatW.PrintMore BMap BRow GDiffer MLines MPol MPut RMem RCells REpoch RMach RCache Go.Maps
open PG
set_option maxHeartbeats 1000000
set_option maxRecDepth 100000
theorem eq172 (d : Nat) (a b c x y z : Int) (w : World) : (Op.equalIn (d + 2) 231 (.agg #[.int .i64 a, .int .i64 b, .int .i64 c]) (.agg #[.int .i64 x, .int .i64 y, .int .i64 z])).run Tryz.prog w = .ok (a == x && (b == y && c == z)) w := by
 have hu := Tryz.underlying231
 have h3 := Tryz.underlying3
 obtain ⟨i, hi, hs⟩ := Option.map_eq_some_iff.1 (show (Tryz.prog.info? 3).map (·.size) = some 1 by kernel_rfl)
 have hagg : (isAgg 3).run Tryz.prog w = .ok false w := by
  unfold isAgg
  rw [Sem.run_bind, run_underlying h3 w]
  rfl
 have hp : ∀ (A : Array Value) (k : Nat) (v : Int), A[k]? = some (.int .i64 v) → (part 3 A k).run Tryz.prog w = .ok (.int .i64 v) w := by
  intro A k v h
  simp [part, Sem.run_bind, hagg, h]
 have q0 := hp #[.int .i64 a, .int .i64 b, .int .i64 c] 0 a rfl
 have q1 := hp #[.int .i64 a, .int .i64 b, .int .i64 c] 1 b rfl
 have q2 := hp #[.int .i64 a, .int .i64 b, .int .i64 c] 2 c rfl
 have r0 := hp #[.int .i64 x, .int .i64 y, .int .i64 z] 0 x rfl
 have r1 := hp #[.int .i64 x, .int .i64 y, .int .i64 z] 1 y rfl
 have r2 := hp #[.int .i64 x, .int .i64 y, .int .i64 z] 2 z rfl
 rw [Op.equalIn]
 cases h0 : (a == x) <;> cases h1 : (b == y) <;> cases h2 : (c == z) <;>
 simp [Sem.run_bind, run_underlying hu, sizeOf, typeInfo, hi, hs, Result.andThen, q0, q1, q2, r0, r1, r2, run_equalIn_int _ _ _ _ _ _ _ h3, h0, h1, h2, List.range', List.range'_succ, Std.Legacy.Range.forIn_eq_forIn_range']
theorem info3c : (Tryz.prog.info? 233).map (·.size) = some 7 := by kernel_rfl
theorem info231 : (Tryz.prog.info? 231).map (·.size) = some 3 := by kernel_rfl
def hitB (s o a : Int) (p : Pl) : Bool := p.held && (p.k0 == s && (p.k1 == o && p.k2 == a))
def atI (s o a : Int) (ps : List Pl) : Int := match ps.findIdx? (hitB s o a) with | some j => (j : Int) | none => -1
theorem atI_hit {s o a : Int} {ps : List Pl} {k : Nat} (hk : k < ps.length) (hn : ∀ j, (hj : j < k) → hitB s o a (ps[j]'(by omega)) = false) (hh : hitB s o a ps[k] = true) : atI s o a ps = k := by
 have : ps.findIdx? (hitB s o a) = some k := by
  rw [List.findIdx?_eq_some_iff_getElem]
  exact ⟨hk, hh, fun j hj => by rw [hn j hj]; simp⟩
 rw [atI, this]
theorem atI_none {s o a : Int} {ps : List Pl} (hn : ∀ j, (hj : j < ps.length) → hitB s o a ps[j] = false) : atI s o a ps = -1 := by
 have : ps.findIdx? (hitB s o a) = none := by
  rw [List.findIdx?_eq_none_iff]
  intro x hx
  obtain ⟨j, hj, rfl⟩ := List.getElem_of_mem hx
  rw [hn j hj]
 rw [atI, this]
theorem pls_cell {w : World} {b : Nat} {ps : List Pl} {k : Nat} {p : Pl} (h : w.heap[b]? = some (.cells (plsV ps) 233 (0, 0))) (hp : ps[k]? = some p) : ∀ (j : Nat) (v : Value), (plV p)[j]? = some v → w.cell? ((⟨b, k * 7, none⟩ : Addr).add j) = some v := by
 intro j v hj
 have hj7 : j < 7 := by have := (List.getElem?_eq_some_iff.1 hj).1; simpa using this
 have : ((⟨b, k * 7, none⟩ : Addr).add j) = ⟨b, k * 7 + j, none⟩ := by simp [Addr.add]
 rw [this, cell_of_row _ _ _ _ _ _ h, show k * 7 + j = 7 * k + j by omega, pls_get hp hj7, hj]
theorem at_calls (w : World) (bc bset : Nat) (L : List Cset) (st : Stats) (s o a : Int) (i : Nat) (c : Cset) (h : CacheAt w bc bset L st) (hi : spotI L.length s o a = i) (hc : L[i]? = some c) :
  Calls Tryz.prog 118 #[.pointer (some ⟨bc, 0, none⟩), .agg #[.int .i64 s, .int .i64 o, .int .i64 a]] w fun e w' => e = .returned (.tuple #[.pointer (some ⟨bset, i * 2, none⟩), .int .i64 (atI s o a c.pls)]) ∧ Below w.heap.size w w' := by
 obtain ⟨w1, hw1⟩ : ∃ q, q = w.alloc (.cells #[.int .i64 s, .int .i64 o, .int .i64 a] 231) := ⟨_, rfl⟩
 have hb1 : Below w.heap.size w w1 := by rw [hw1]; exact below_alloc (Below.refl _ _) _
 have ht1 : w1.heap[w.heap.size]? = some (.cells #[.int .i64 s, .int .i64 o, .int .i64 a] 231 (0, 0)) := by rw [hw1]; exact heap_alloc_new w _
 have htop : w1.heap[bc]? = some (.cells (topV bset L.length st) 109 (0, 0)) := (hb1.block _ (Array.getElem?_eq_some_iff.1 h.top).1).trans h.top
 have hset : w1.heap[bset]? = some (.cells (setsV L) 151 (0, 0)) := (hb1.block _ (Array.getElem?_eq_some_iff.1 h.sets).1).trans h.sets
 have hpl0 := h.each c (List.mem_of_getElem? hc)
 have hpl : w1.heap[c.blk]? = some (.cells (plsV c.pls) 233 (0, 0)) := (hb1.block _ (Array.getElem?_eq_some_iff.1 hpl0).1).trans hpl0
 have hiL : i < L.length := (List.getElem?_eq_some_iff.1 hc).1
 have hI : (i : Int) < L.length := by omega
 have b0 := cellOf htop 0 (.slice (some ⟨bset, 0, none⟩) L.length L.length) rfl
 have t0 := cellOf ht1 0 (.int .i64 s) rfl
 have t1 := cellOf ht1 1 (.int .i64 o) rfl
 have t2 := cellOf ht1 2 (.int .i64 a) rfl
 have HQ := jA (spot_calls w1.drew bc bset L.length st s o a htop h.some_ h.small)
 rw [hi] at HQ
 have HB1 := jA (below_drew hb1)
 have hc0 : w1.cell? ⟨bset, i * 2, none⟩ = some (.slice (some ⟨c.blk, 0, none⟩) c.pls.length c.pls.length) := by rw [cell_of_row _ _ _ _ _ _ hset, show i * 2 = 2 * i from Nat.mul_comm _ _]; exact (sets_get hc).1
 have HC0 := jA hc0
 have HPL := jA hpl
 have HT1 := jA ht1
 have hsm : L.length ≤ 256 := h.small
 have hways := (h.ways c (List.mem_of_getElem? hc)).2
 have hw1' := jA hw1
 clear hb1 ht1 htop hset hpl0 hpl h hi hc hc0 hw1
 go_enter Tryz.func118, Tryz.ntmps118
 go_upto_region 1 with fail
 rw [← hw1'.out]
 refine start_ (n := 14) (S := fun w' => w'.cell? ⟨bc, 0, none⟩ = some (.slice (some ⟨bset, 0, none⟩) L.length L.length) ∧ w'.cell? ⟨w.heap.size, 0, none⟩ = some (.int .i64 s) ∧ w'.cell? ⟨w.heap.size, 1, none⟩ = some (.int .i64 o) ∧ w'.cell? ⟨w.heap.size, 2, none⟩ = some (.int .i64 a)) (ds := []) (Jb 14 0) (by kernel_rfl) rfl (by kernel_rfl) ⟨b0, t0, t1, t2⟩ (fun hHeld => ?_)
 refine Jp 0 9 (Jb 14 1) rfl rfl ?_
 refine Jp 1 10 (Jb 14 3) rfl rfl ?_
 refine Jp 2 11 (Jb 14 7) rfl rfl ?_
 refine Jk 3 12 (Jb 14 15) rfl rfl hHeld (.inl ⟨by rfl, by rintro w' ⟨s0, s1, s2, s3⟩; go_simp; with_reducible rfl⟩) ?_
 refine Jp 4 13 (Jb 14 31) rfl rfl ?_
 refine Jp 5 14 (Jb 14 63) rfl rfl ?_
 refine Jk 6 15 (Jb 14 127) rfl rfl hHeld (.inl ⟨by rfl, by rintro w' ⟨s0, s1, s2, s3⟩; go_simp; with_reducible rfl⟩) ?_
 refine Jp 7 16 (Jb 14 255) rfl rfl ?_
 refine Jk 8 17 (Jb 14 511) rfl rfl hHeld (.inl ⟨by rfl, by rintro w' ⟨s0, s1, s2, s3⟩; go_simp; with_reducible rfl⟩) ?_
 refine Jp 9 18 (Jb 14 1023) rfl rfl ?_
 refine Jk 10 19 (Jb 14 2047) rfl rfl hHeld (.inl ⟨by rfl, by rintro w' ⟨s0, s1, s2, s3⟩; go_simp; with_reducible rfl⟩) ?_
 refine one_ (i := 11) (N := some 20) (Jb 14 4095) rfl rfl (by kernel_rfl) (by decide) (fun K hK => ?_)
 refine goes_ Tryz.func125 (by kernel_rfl) rfl #[.pointer (some ⟨bc, 0, none⟩), .int .i64 s, .int .i64 o, .int .i64 a] (by rfl) rfl rfl (by (try simp only [List.map_toArray, List.map_cons, List.map_nil]); first | done | rfl) ?_
 refine HQ.out.mono ?_
 rintro e w2 ⟨rfl, rfl⟩
 refine ⟨_, rfl, ?_⟩
 refine hK.out _ _ ⟨b0, t0, t1, t2⟩ (fun hHeld => ?_)
 clear hK K
 refine norm_ (a' := ?_) ?_ ?_; rotate_left; (show Act.put _ (some 20) _ = _; simp only [Act.put, Jq, Jr, Js]; rfl)
 refine Jp 12 21 (Jb 14 8191) rfl rfl ?_
 refine Jp 13 6 (Jb 14 16383) rfl rfl ?_
 refine done_ (by kernel_rfl) ?_
 have hc0 : w1.drew.cell? ⟨bset, i * 2, none⟩ = some (.slice (some ⟨c.blk, 0, none⟩) c.pls.length c.pls.length) := HC0.out
 clear b0 t0 t1 t2
 have hpmax : c.pls.length ≤ 9223372036854775807 := by omega
 go_wp2
 go_loopw [27] (fun u wr => ∃ (k : Nat), k ≤ c.pls.length ∧ u = .int .i64 k ∧ Aside0 (Below w1.drew.heap.size w1.drew wr) ∧ Aside0 (∀ j, (hj : j < k) → (hj' : j < c.pls.length) → hitB s o a c.pls[j] = false)) (fun u _ => c.pls.length - (intOf u).toNat)
 case atStart => exact ⟨0, Nat.zero_le _, rfl, ⟨Below.refl _ _⟩, ⟨fun j hj => absurd hj (by omega)⟩⟩
 case round =>
  obtain ⟨k, hk, rfl, HR, HF⟩ := hrel
  by_cases hlt : k < c.pls.length
  ·obtain ⟨p, hp⟩ : ∃ p, p = c.pls[k] := ⟨_, rfl⟩
   have hpk : c.pls[k]? = some p := by rw [hp]; exact List.getElem?_eq_getElem hlt
   have hcw := pls_cell (w := wr) (b := c.blk) ((HR.out.block _ (Array.getElem?_eq_some_iff.1 HPL.out).1).trans HPL.out) hpk
   have htc := (HR.out.block _ (Array.getElem?_eq_some_iff.1 HT1.out).1).trans HT1.out
   have HCW := jA hcw
   have HTC := jA htc
   have c0' : (k : Int) < c.pls.length := by omega
   have HPK := jA hp
   clear hcw htc hp hpk
   go_upto_region 5 with (first | ((with_reducible refine gate_dst (N := 31) rfl ?_); refine wpList_load_at rfl 233 (.tmp 30) rfl ⟨c.blk, k * 7, none⟩ ?hx (plV p) HCW.out _ Tryz.underlying233 rfl info3c ?_; (case hx => rfl)) | ((with_reducible refine gate_store (t := 233) (p := 8) (v := .tmp 31) rfl ?_); refine wpList_store_new rfl 233 (.tmp 8) (.tmp 31) rfl _ (plV p).toArray info3c rfl (by intro v hv; simp at hv; rcases hv with rfl | rfl | rfl | rfl | rfl | rfl | rfl <;> rfl) rfl rfl ?_))
   (try simp only [Act.put])
   have hb2 : Below w1.drew.heap.size w1.drew (wr.alloc (.cells (plV p).toArray 233)) := below_then HR.out HR.out.size (below_alloc (Below.refl _ _) _)
   have hd := heap_alloc_new wr (.cells (plV p).toArray 233)
   have htc2 : (wr.alloc (.cells (plV p).toArray 233)).heap[w.heap.size]? = _ := (Below.heap_alloc _ _ _ (Array.getElem?_eq_some_iff.1 HTC.out).1).trans HTC.out
   obtain ⟨g8, hg8⟩ : ∃ g8, g8 = wr.heap.size := ⟨_, rfl⟩
   obtain ⟨W2, hW2⟩ : ∃ W2, W2 = (wr.alloc (.cells (plV p).toArray 233)) := ⟨_, rfl⟩
   rw [← hW2] at hb2 hd htc2 ⊢
   rw [← hg8] at hd ⊢
   have d0 : W2.cell? ⟨g8, 0, none⟩ = some (.bool p.held) := cellOf hd 0 _ rfl
   have hcw1 : ∀ (j : Nat) (v : Value), [Value.int .i64 p.k0, .int .i64 p.k1, .int .i64 p.k2][j]? = some v → W2.cell? ((⟨g8, 1, none⟩ : Addr).add j) = some v := by
    intro j v hj
    have hj3 : j < 3 := by have := (List.getElem?_eq_some_iff.1 hj).1; simpa using this
    rcases (by omega : j = 0 ∨ j = 1 ∨ j = 2) with rfl | rfl | rfl
    ·cases hj; exact cellOf hd 1 _ rfl
    ·cases hj; exact cellOf hd 2 _ rfl
    ·cases hj; exact cellOf hd 3 _ rfl
   have hcw2 : ∀ (j : Nat) (v : Value), [Value.int .i64 s, .int .i64 o, .int .i64 a][j]? = some v → W2.cell? ((⟨w.heap.size, 0, none⟩ : Addr).add j) = some v := by
    intro j v hj
    have hj3 : j < 3 := by have := (List.getElem?_eq_some_iff.1 hj).1; simpa using this
    rcases (by omega : j = 0 ∨ j = 1 ∨ j = 2) with rfl | rfl | rfl
    ·cases hj; exact cellOf htc2 0 _ rfl
    ·cases hj; exact cellOf htc2 1 _ rfl
    ·cases hj; exact cellOf htc2 2 _ rfl
   have HC1 := jA hcw1
   have HC2 := jA hcw2
   have HB2 := jA hb2
   have hfin : hitB s o a p = false → ∀ j, (hj : j < k + 1) → (hj' : j < c.pls.length) → hitB s o a c.pls[j] = false := fun e j hj hj' => by
    rcases (by omega : j < k ∨ j = k) with h | rfl
    ·exact HF.out j h hj'
    ·rw [← HPK.out]; exact e
   have HFIN := jA hfin
   clear hcw1 hcw2 hd htc2 hb2 hW2 hg8 hfin
   cases hh : p.held with
   | false =>
    rw [hh] at d0
    have hno : hitB s o a p = false := by simp [hitB, hh]
    go_wp2
    go_roundw
    case rel => exact ⟨k + 1, by omega, by go_num, HB2, ⟨HFIN.out hno⟩⟩
    case measure => simp [intOf]; omega
   | true =>
    rw [hh] at d0
    obtain ⟨q, hq⟩ : ∃ q, q = (p.k0 == s && (p.k1 == o && p.k2 == a)) := ⟨_, rfl⟩
    have heq : ∀ W, (Op.equalIn 10000 231 (.agg #[.int .i64 p.k0, .int .i64 p.k1, .int .i64 p.k2]) (.agg #[.int .i64 s, .int .i64 o, .int .i64 a])).run Tryz.prog W = .ok q W := fun W => by rw [hq]; exact eq172 9998 _ _ _ _ _ _ W
    have hhit : hitB s o a p = q := by rw [hitB, hh, hq]; rfl
    clear hq hh
    cases q with
    | false =>
     go_wp2_with (first | ((with_reducible refine gate_dst (N := 36) rfl ?_); (try (refine gate_guard (by rfl) ?_; dsimp only)); refine wpList_load_at rfl 231 (.tmp 35) rfl ⟨g8, 1, none⟩ ?hx [Value.int .i64 p.k0, .int .i64 p.k1, .int .i64 p.k2] HC1.out _ Tryz.underlying231 rfl info231 ?_; (case hx => rfl)) | ((with_reducible refine gate_dst (N := 37) rfl ?_); (try (refine gate_guard (by rfl) ?_; dsimp only)); refine wpList_load_at rfl 231 (.tmp 3) rfl ⟨w.heap.size, 0, none⟩ ?hx [Value.int .i64 s, .int .i64 o, .int .i64 a] HC2.out _ Tryz.underlying231 rfl info231 ?_; (case hx => rfl)))
     go_roundw
     case rel => exact ⟨k + 1, by omega, by go_num, HB2, ⟨HFIN.out hhit⟩⟩
     case measure => simp [intOf]; omega
    | true =>
     go_wp2_with (first | ((with_reducible refine gate_dst (N := 36) rfl ?_); (try (refine gate_guard (by rfl) ?_; dsimp only)); refine wpList_load_at rfl 231 (.tmp 35) rfl ⟨g8, 1, none⟩ ?hx [Value.int .i64 p.k0, .int .i64 p.k1, .int .i64 p.k2] HC1.out _ Tryz.underlying231 rfl info231 ?_; (case hx => rfl)) | ((with_reducible refine gate_dst (N := 37) rfl ?_); (try (refine gate_guard (by rfl) ?_; dsimp only)); refine wpList_load_at rfl 231 (.tmp 3) rfl ⟨w.heap.size, 0, none⟩ ?hx [Value.int .i64 s, .int .i64 o, .int .i64 a] HC2.out _ Tryz.underlying231 rfl info231 ?_; (case hx => rfl)))
     have hres : atI s o a c.pls = k := atI_hit hlt (fun j hj => HF.out j hj (by omega)) (by rw [← HPK.out]; exact hhit)
     go_ret2
     exact ⟨by rw [hres]; rfl, below_then HB1.out HB1.out.size HB2.out⟩
  ·have hkk : k = c.pls.length := by omega
   subst hkk
   have hres : atI s o a c.pls = -1 := atI_none (fun j hj => HF.out j hj hj)
   go_wp2
   go_ret2
   exact ⟨by rw [hres]; rfl, below_then HB1.out HB1.out.size HR.out⟩
end Go.Proofs.YtdgkppldopiaoaaGreat.RCat
/- avc.Cache's Get, walked. -/
namespace Go.Proofs.YtdgkppldopiaoaaGreat.RCget
open Go.RowKit YtdgkppldopiaoaaGreatW.PrintWords YtdgkppldopiaoaaGreatW.PrintLast YtdgkppldopiaoaaGreatW.PrintMore BMap BRow GDiffer MLines MPol MPut RMem RCells REpoch RMach RCache RCat Go.Maps
open PG
set_option maxHeartbeats 1000000
set_option maxRecDepth 100000
theorem flat_seg {α : Type} (f : α → List Value) (k : Nat) (hk : ∀ x, (f x).length = k) (y : α) : ∀ (L : List α) (i : Nat), i < L.length → (L.set i y).flatMap f = (L.flatMap f).take (i * k) ++ f y ++ (L.flatMap f).drop (i * k + k)
 | [], i, h => by simp at h
 | x :: r, 0, _ => by
  have := hk x
  simp [List.flatMap_cons, ← this]
 | x :: r, i + 1, h => by
  have hi : i < r.length := by simpa using h
  have ih := flat_seg f k hk y r i hi
  have hx := hk x
  have ht : (f x).take ((i + 1) * k) = f x := List.take_of_length_le (by rw [hx, Nat.add_mul]; omega)
  have hd : (f x).drop ((i + 1) * k + k) = [] := List.drop_eq_nil_of_le (by rw [hx, Nat.add_mul]; omega)
  rw [List.set_cons_succ, List.flatMap_cons, List.flatMap_cons, ih, List.take_append, List.drop_append, ht, hd]
  rw [hx, show (i + 1) * k - k = i * k by rw [Nat.add_mul]; omega, show (i + 1) * k + k - k = i * k + k by rw [Nat.add_mul]; omega]
  simp only [List.append_assoc, List.nil_append]
theorem flat_len {α : Type} (f : α → List Value) (k : Nat) (hk : ∀ x, (f x).length = k) : ∀ (L : List α), (L.flatMap f).length = L.length * k
 | [] => by simp
 | x :: r => by rw [List.flatMap_cons, List.length_append, hk, flat_len f k hk r, List.length_cons, Nat.add_mul]; omega
theorem flat_one {α : Type} (f : α → List Value) (k : Nat) (hk : ∀ x, (f x).length = k) (y : α) (j : Nat) (v : Value) (hj : j < k) : ∀ (L : List α) (i : Nat) (x : α), L[i]? = some x → f y = (f x).set j v → (L.set i y).flatMap f = (L.flatMap f).set (i * k + j) v
 | [], i, x, h, _ => by simp at h
 | z :: r, 0, x, h, he => by
  simp at h
  subst h
  rw [List.set_cons_zero, List.flatMap_cons, List.flatMap_cons, he, List.set_append_left _ _ (by rw [hk]; omega)]
  simp
 | z :: r, i + 1, x, h, he => by
  have ih := flat_one f k hk y j v hj r i x (by simpa using h) he
  rw [List.set_cons_succ, List.flatMap_cons, List.flatMap_cons, ih, List.set_append_right _ _ (by rw [hk, Nat.add_mul]; omega)]
  rw [hk, show (i + 1) * k + j - k = i * k + j by rw [Nat.add_mul]; omega]
theorem pls_set {w : World} {b k j : Nat} {ps : List Pl} {p p' : Pl} {v : Value} (h : w.heap[b]? = some (.cells (plsV ps) 233 (0, 0))) (hp : ps[k]? = some p) (hj : j < 7) (he : plV p' = (plV p).set j v) :
  (w.setCell ⟨b, k * 7 + j, none⟩ v).heap[b]? = some (.cells (plsV (ps.set k p')) 233 (0, 0)) := by
 refine blk_put h _ _ ?_
 rw [plsV, plsV, List.setIfInBounds_toArray, flat_one plV 7 (fun _ => rfl) p' j v hj ps k p hp he]
theorem pls_whole {w : World} {b k : Nat} {ps : List Pl} {p' : Pl} (h : w.heap[b]? = some (.cells (plsV ps) 233 (0, 0))) (hk : k < ps.length) :
  (w.setCells b (k * 7) (plV p')).heap[b]? = some (.cells (plsV (ps.set k p')) 233 (0, 0)) := by
 have hlen : (plsV ps).size = ps.length * 7 := by
  rw [plsV, List.size_toArray, flat_len plV 7 (fun _ => rfl)]
 have hl7 : (plV p').length = 7 := rfl
 obtain ⟨cur, h3, h4, h5⟩ := setCells_row (plV p') (k * 7) w _ h (by rw [hlen, hl7]; omega)
 rw [hl7] at h5
 have e : cur = plsV (ps.set k p') := by
  apply Array.ext'
  rw [h5]
  exact (flat_seg plV 7 (fun _ => rfl) p' ps k hk).symm
 rw [h3, e]
def z0 : Pl := ⟨false, 0, 0, 0, 0, false, false⟩
def OffC (bc bset : Nat) (L : List Cset) : Nat → Prop := fun k => k ≠ bc ∧ k ≠ bset ∧ ∀ s ∈ L, k ≠ s.blk
theorem OffC.set {bc bset : Nat} {L : List Cset} {i : Nat} {c c' : Cset} (hc : L[i]? = some c) (hb : c'.blk = c.blk) {k : Nat} (h : OffC bc bset L k) : OffC bc bset (L.set i c') k :=
 ⟨h.1, h.2.1, fun s hs => by
  rcases List.mem_or_eq_of_mem_set hs with h1 | rfl
  ·exact h.2.2 s h1
  ·rw [hb]; exact h.2.2 c (List.mem_of_getElem? hc)⟩
section
variable {w w1 : World} {bc bset : Nat} {L : List Cset} {st : Stats}
theorem _root_.Go.Proofs.YtdgkppldopiaoaaGreat.RCache.CacheAt.move (h : CacheAt w bc bset L st) (hm : ∀ k, k < w.heap.size → ¬ OffC bc bset L k → w1.heap[k]? = w.heap[k]?) : CacheAt w1 bc bset L st :=
 { h with top := (hm _ (Array.getElem?_eq_some_iff.1 h.top).1 (fun e => e.1 rfl)).trans h.top, sets := (hm _ (Array.getElem?_eq_some_iff.1 h.sets).1 (fun e => e.2.1 rfl)).trans h.sets, each := fun s hs => (hm _ (Array.getElem?_eq_some_iff.1 (h.each s hs)).1 (fun e => e.2.2 s hs rfl)).trans (h.each s hs) }
theorem _root_.Go.Proofs.YtdgkppldopiaoaaGreat.RCache.CacheAt.below (h : CacheAt w bc bset L st) (hb : Below w.heap.size w w1) : CacheAt w1 bc bset L st := h.move (fun k hk _ => hb.block k hk)
theorem _root_.Go.Proofs.YtdgkppldopiaoaaGreat.RCache.CacheAt.pls (h : CacheAt w bc bset L st) {i : Nat} {c : Cset} (hc : L[i]? = some c) {ps : List Pl} (hO : ∀ k, k ≠ c.blk → w1.heap[k]? = w.heap[k]?) (hp : w1.heap[c.blk]? = some (.cells (plsV ps) 233 (0, 0))) (hl : ps.length = c.pls.length) :
  CacheAt w1 bc bset (L.set i { c with pls := ps }) st := by
 have hcm := List.mem_of_getElem? hc
 have hi : i < L.length := (List.getElem?_eq_some_iff.1 hc).1
 have hmap : (L.set i { c with pls := ps }).map (·.blk) = L.map (·.blk) := by
  rw [List.map_set]
  apply List.ext_getElem?
  intro n
  rw [List.getElem?_set]
  split
  ·rename_i e; subst e; simp [hi, (List.getElem?_eq_some_iff.1 hc).2]
  ·rfl
 have hmem : ∀ s ∈ L.set i { c with pls := ps }, s = { c with pls := ps } ∨ (s ∈ L ∧ s.blk ≠ c.blk) := fun s hs => by
  obtain ⟨n, hn⟩ := List.mem_iff_getElem?.1 hs
  rw [List.getElem?_set] at hn
  split at hn
  ·simp at hn; exact .inl hn.symm
  ·rename_i e
   refine .inr ⟨List.mem_of_getElem? hn, fun e2 => e ?_⟩
   have hi' : i < (L.map (·.blk)).length := by simpa using hi
   refine (List.getElem?_inj hi' h.nd).1 ?_
   simp [hc, hn, e2]
 have hsets : setsV (L.set i { c with pls := ps }) = setsV L := by
  have : (L.set i { c with pls := ps }).map setV = L.map setV := by
   rw [List.map_set]
   apply List.ext_getElem?
   intro n
   rw [List.getElem?_set]
   split
   ·rename_i e; subst e
    simp [hi, (List.getElem?_eq_some_iff.1 hc).2, hl]
   ·rfl
  unfold setsV
  rw [List.flatMap_def, List.flatMap_def, this]
 exact {
  top := by rw [List.length_set]; exact (hO _ (fun e => (h.off c hcm).1 e.symm)).trans h.top
  sets := by rw [hsets]; exact (hO _ (fun e => (h.off c hcm).2 e.symm)).trans h.sets
  each := fun s hs => by
   rcases hmem s hs with rfl | ⟨h1, h2⟩
   ·exact hp
   ·exact (hO _ h2).trans (h.each s h1)
  nd := by rw [hmap]; exact h.nd
  ne := h.ne
  off := fun s hs => by
   rcases hmem s hs with rfl | ⟨h1, h2⟩
   ·exact h.off c hcm
   ·exact h.off s h1
  some_ := by rw [List.length_set]; exact h.some_
  small := by rw [List.length_set]; exact h.small
  ways := fun s hs => by
   rcases hmem s hs with rfl | ⟨h1, h2⟩
   ·show 1 ≤ ps.length ∧ ps.length ≤ 8
    rw [hl]; exact h.ways c hcm
   ·exact h.ways s h1
  hands := fun s hs => by
   rcases hmem s hs with rfl | ⟨h1, h2⟩
   ·show 0 ≤ c.hand ∧ c.hand < ps.length
    rw [hl]; exact h.hands c hcm
   ·exact h.hands s h1 }
theorem _root_.Go.Proofs.YtdgkppldopiaoaaGreat.RCache.CacheAt.stat (h : CacheAt w bc bset L st) {st' : Stats} (hO : ∀ k, k ≠ bc → w1.heap[k]? = w.heap[k]?) (ht : w1.heap[bc]? = some (.cells (topV bset L.length st') 109 (0, 0))) : CacheAt w1 bc bset L st' :=
 { h with top := ht, sets := (hO _ (fun e => h.ne e.symm)).trans h.sets, each := fun s hs => (hO _ (h.off s hs).1).trans (h.each s hs) }
end
structure Cst where
 L : List Cset
 st : Stats
def Cst.spot (C : Cst) (s o a : Int) : Nat := (spotI C.L.length s o a).toNat
def Cst.putPl (C : Cst) (i j : Nat) (c : Cset) (p : Pl) : List Cset := C.L.set i { c with pls := c.pls.set j p }
def getC (C : Cst) (tag s o a : Int) : Option (Bool × Bool × Cst) :=
 match C.L[C.spot s o a]? with
 | none => none
 | some c => match c.pls.findIdx? (hitB s o a) with
  | none => some (false, false, ⟨C.L, { C.st with misses := wrap64 (C.st.misses + 1) }⟩)
  | some j => match c.pls[j]? with
   | none => none
   | some p => if p.tag = tag then some (p.al, true, ⟨C.putPl (C.spot s o a) j c { p with mark := true }, { C.st with hits := wrap64 (C.st.hits + 1) }⟩)
    else some (false, false, ⟨C.putPl (C.spot s o a) j c z0, { C.st with misses := wrap64 (C.st.misses + 1), held := wrap64 (C.st.held - 1) }⟩)
abbrev CAt (w : World) (bc bset : Nat) (C : Cst) : Prop := CacheAt w bc bset C.L C.st
theorem at_go (w : World) (bc bset : Nat) (C : Cst) (s o a : Int) (c : Cset) (h : CAt w bc bset C) (hc : C.L[C.spot s o a]? = some c) :
  Calls Tryz.prog 118 #[.pointer (some ⟨bc, 0, none⟩), .agg #[.int .i64 s, .int .i64 o, .int .i64 a]] w fun e w' => e = .returned (.tuple #[.pointer (some ⟨bset, C.spot s o a * 2, none⟩), .int .i64 (atI s o a c.pls)]) ∧ Below w.heap.size w w' := by
 have hr := spot_range (n := C.L.length) (s := s) (o := o) (a := a) (by have := h.some_; omega)
 exact at_calls w bc bset C.L C.st s o a (C.spot s o a) c h (by rw [Cst.spot]; omega) hc
theorem get_none (w : World) (bc bset : Nat) (C : Cst) (tag s o a : Int) (c : Cset) (h : CAt w bc bset C) (hc : C.L[C.spot s o a]? = some c) (hf : c.pls.findIdx? (hitB s o a) = none) :
  Calls Tryz.prog 104 #[.pointer (some ⟨bc, 0, none⟩), .int .i64 tag, .int .i64 s, .int .i64 o, .int .i64 a] w fun e w' => e = .returned (.tuple #[.bool false, .bool false]) ∧ CAt w' bc bset ⟨C.L, { C.st with misses := wrap64 (C.st.misses + 1) }⟩ ∧ Keep (OffC bc bset C.L) w w' := by
 have hat := at_go w bc bset C s o a c h hc
 rw [show atI s o a c.pls = -1 by rw [atI, hf]] at hat
 have HQ := jA hat
 have aft : ∀ w1, Below w.heap.size w w1 → (w1.cell? ⟨bc, 2, none⟩ = some (.int .i64 C.st.misses) ∧ w1.frozen? ⟨bc, 2, none⟩ = false) := fun w1 hb => by
  have h1 := (CacheAt.below h hb).top
  exact ⟨cellOf h1 2 _ rfl, MPut.frozen_of_row h1 2⟩
 have HAFT := jA aft
 have H := jA h
 generalize C.spot s o a = i at *
 clear h hc hf hat aft
 go_enter Tryz.func104, Tryz.ntmps104
 go_wp2_with (first | (go_at_call 118; (refine HQ.out.mono ?_); rintro e w1 ⟨rfl, hb⟩; obtain ⟨a1, a2⟩ := HAFT.out w1 hb; have HB := jA hb; clear hb))
 go_ret2
 have h1 := CacheAt.below H.out HB.out
 refine ⟨rfl, h1.stat (st' := { C.st with misses := wrap64 (C.st.misses + 1) }) (fun k hk => Below.heap_setCell _ _ _ _ hk) ?_, ((Keep.refl _ w).below HB.out).setCell (fun e => e.1 rfl) _⟩
 exact blk_set h1.top 2 _
theorem plsIn {w w1 : World} {bc bset : Nat} {L : List Cset} {st : Stats} (h : CacheAt w bc bset L st) (hb : Below w.heap.size w w1) {i j : Nat} {c : Cset} {p : Pl} (hc : L[i]? = some c) (hp : c.pls[j]? = some p) :
  w1.cell? ⟨bset, i * 2, none⟩ = some (.slice (some ⟨c.blk, 0, none⟩) c.pls.length c.pls.length) ∧ ∀ n v, n < 7 → (plV p)[n]? = some v → w1.cell? ⟨c.blk, j * 7 + n, none⟩ = some v := by
 have h1 := CacheAt.below h hb
 refine ⟨by rw [cell_of_row _ _ _ _ _ _ h1.sets, show i * 2 = 2 * i from Nat.mul_comm _ _]; exact (sets_get hc).1, fun n v hn hv => ?_⟩
 rw [cell_of_row _ _ _ _ _ _ (h1.each c (List.mem_of_getElem? hc)), show j * 7 + n = 7 * j + n by omega, pls_get hp hn, hv]
theorem get_hit (w : World) (bc bset : Nat) (C : Cst) (tag s o a : Int) (c : Cset) (j : Nat) (p : Pl) (h : CAt w bc bset C) (hc : C.L[C.spot s o a]? = some c) (hf : c.pls.findIdx? (hitB s o a) = some j) (hp : c.pls[j]? = some p) (ht : p.tag = tag) :
  Calls Tryz.prog 104 #[.pointer (some ⟨bc, 0, none⟩), .int .i64 tag, .int .i64 s, .int .i64 o, .int .i64 a] w fun e w' => e = .returned (.tuple #[.bool p.al, .bool true]) ∧ CAt w' bc bset ⟨C.putPl (C.spot s o a) j c { p with mark := true }, { C.st with hits := wrap64 (C.st.hits + 1) }⟩ ∧ Keep (OffC bc bset C.L) w w' := by
 have hat := at_go w bc bset C s o a c h hc
 rw [show atI s o a c.pls = j by rw [atI, hf]] at hat
 have HQ := jA hat
 have hjl : j < c.pls.length := (List.getElem?_eq_some_iff.1 hp).1
 have hjI : (j : Int) < c.pls.length := by omega
 have hcm := List.mem_of_getElem? hc
 have hw8 := (h.ways c hcm).2
 have HCM := jA hcm
 have HC := jA hc
 have HPJ := jA hp
 have H := jA h
 generalize C.spot s o a = i at *
 have aft : ∀ w1, Below w.heap.size w w1 → (w1.cell? ⟨bset, i * 2, none⟩ = some (.slice (some ⟨c.blk, 0, none⟩) c.pls.length c.pls.length) ∧ w1.cell? ⟨c.blk, j * 7 + 4, none⟩ = some (.int .i64 tag) ∧ w1.cell? ⟨c.blk, j * 7 + 6, none⟩ = some (.bool p.mark) ∧ w1.frozen? ⟨c.blk, j * 7 + 6, none⟩ = false ∧
   (w1.setCell ⟨c.blk, j * 7 + 6, none⟩ (.bool true)).cell? ⟨bc, 1, none⟩ = some (.int .i64 C.st.hits) ∧ (w1.setCell ⟨c.blk, j * 7 + 6, none⟩ (.bool true)).frozen? ⟨bc, 1, none⟩ = false ∧
   ((w1.setCell ⟨c.blk, j * 7 + 6, none⟩ (.bool true)).setCell ⟨bc, 1, none⟩ (.int .i64 (wrap64 (C.st.hits + 1)))).cell? ⟨bset, i * 2, none⟩ = some (.slice (some ⟨c.blk, 0, none⟩) c.pls.length c.pls.length) ∧
   ((w1.setCell ⟨c.blk, j * 7 + 6, none⟩ (.bool true)).setCell ⟨bc, 1, none⟩ (.int .i64 (wrap64 (C.st.hits + 1)))).cell? ⟨c.blk, j * 7 + 5, none⟩ = some (.bool p.al) ∧
   CAt ((w1.setCell ⟨c.blk, j * 7 + 6, none⟩ (.bool true)).setCell ⟨bc, 1, none⟩ (.int .i64 (wrap64 (C.st.hits + 1)))) bc bset ⟨C.putPl i j c { p with mark := true }, { C.st with hits := wrap64 (C.st.hits + 1) }⟩ ∧
   Keep (OffC bc bset C.L) w ((w1.setCell ⟨c.blk, j * 7 + 6, none⟩ (.bool true)).setCell ⟨bc, 1, none⟩ (.int .i64 (wrap64 (C.st.hits + 1))))) := fun w1 hb => by
  have h1 := CacheAt.below h hb
  obtain ⟨f1, f2⟩ := plsIn h hb hc hp
  have hoff := h.off c hcm
  have hsets2 := pls_set (v := .bool true) (p' := { p with mark := true }) (j := 6) (h1.each c hcm) hp (by decide) rfl
  have h2 := h1.pls hc (fun k hk => Below.heap_setCell w1 ⟨c.blk, j * 7 + 6, none⟩ (.bool true) k hk) hsets2 (List.length_set ..)
  have h3 := h2.stat (st' := { C.st with hits := wrap64 (C.st.hits + 1) }) (fun k hk => Below.heap_setCell _ ⟨bc, 1, none⟩ (.int .i64 (wrap64 (C.st.hits + 1))) k hk) (blk_set h2.top 1 _)
  have hc' : (C.putPl i j c { p with mark := true })[i]? = some { c with pls := c.pls.set j { p with mark := true } } := by
   have := (List.getElem?_eq_some_iff.1 hc).1
   simp [Cst.putPl, this]
  have hp' : (c.pls.set j { p with mark := true })[j]? = some { p with mark := true } := by simp [hjl]
  obtain ⟨g1, g2⟩ := plsIn h3 (Below.refl _ _) hc' hp'
  rw [List.length_set] at g1
  exact ⟨f1, by rw [f2 4 (.int .i64 p.tag) (by decide) rfl, ht], f2 6 _ (by decide) rfl, MPut.frozen_of_row (h1.each c hcm) _, cellOf h2.top 1 _ rfl, MPut.frozen_of_row h2.top 1, g1, g2 5 _ (by decide) rfl, h3,
   (((Keep.refl _ w).below hb).setCell (fun e => e.2.2 c hcm rfl) _).setCell (fun e => e.1 rfl) _⟩
 have HAFT := jA aft
 clear h hc hf hat aft hp hcm
 go_enter Tryz.func104, Tryz.ntmps104
 go_wp2_with (first | (go_at_call 118; (refine HQ.out.mono ?_); rintro e w1 ⟨rfl, hb⟩; obtain ⟨a1, a2, a3, a4, a5, a6, a7, a8, a9, a10⟩ := HAFT.out w1 hb; have HC9 := jA a9; have HK9 := jA a10; clear hb a9 a10))
 go_ret2
 exact ⟨rfl, HC9.out, HK9.out⟩
theorem there_pl {w : World} {b j : Nat} {ps : List Pl} (h : w.heap[b]? = some (.cells (plsV ps) 233 (0, 0))) (hj : j < ps.length) : w.there b (j * 7) 7 := fun n hn => by
 rw [cell_of_row _ _ _ _ _ _ h]
 have hlen : (plsV ps).size = ps.length * 7 := by rw [plsV, List.size_toArray, flat_len plV 7 (fun _ => rfl)]
 refine ⟨?_, MPut.frozen_of_row h _⟩
 rw [Array.getElem?_eq_getElem (by rw [hlen]; omega)]
 rfl
def zV : Array Value := #[.bool false, .int .i64 0, .int .i64 0, .int .i64 0, .int .i64 0, .bool false, .bool false]
theorem zV_one : zV.all (·.oneCell') = true := by rw [Array.all_eq_true_iff_forall_mem]; intro v hv; simp [zV] at hv; rcases hv with rfl | rfl | rfl <;> rfl
theorem zV_info : (Tryz.prog.info? 233).map (·.size) = some zV.size := info3c
theorem get_other (w : World) (bc bset : Nat) (C : Cst) (tag s o a : Int) (c : Cset) (j : Nat) (p : Pl) (h : CAt w bc bset C) (hc : C.L[C.spot s o a]? = some c) (hf : c.pls.findIdx? (hitB s o a) = some j) (hp : c.pls[j]? = some p) (ht : p.tag ≠ tag) :
  Calls Tryz.prog 104 #[.pointer (some ⟨bc, 0, none⟩), .int .i64 tag, .int .i64 s, .int .i64 o, .int .i64 a] w fun e w' => e = .returned (.tuple #[.bool false, .bool false]) ∧ CAt w' bc bset ⟨C.putPl (C.spot s o a) j c z0, { C.st with misses := wrap64 (C.st.misses + 1), held := wrap64 (C.st.held - 1) }⟩ ∧ Keep (OffC bc bset C.L) w w' := by
 have hat := at_go w bc bset C s o a c h hc
 rw [show atI s o a c.pls = j by rw [atI, hf]] at hat
 have HQ := jA hat
 have hjl : j < c.pls.length := (List.getElem?_eq_some_iff.1 hp).1
 have hjI : (j : Int) < c.pls.length := by omega
 have hcm := List.mem_of_getElem? hc
 have hw8 := (h.ways c hcm).2
 have HCM := jA hcm
 have H := jA h
 generalize C.spot s o a = i at *
 have aft : ∀ w1, Below w.heap.size w w1 → ∃ w3, w3 = (w1.setCell ⟨bc, 2, none⟩ (.int .i64 (wrap64 (C.st.misses + 1)))).setCells c.blk (j * 7) zV.toList ∧ (w1.cell? ⟨bset, i * 2, none⟩ = some (.slice (some ⟨c.blk, 0, none⟩) c.pls.length c.pls.length) ∧ w1.cell? ⟨c.blk, j * 7 + 4, none⟩ = some (.int .i64 p.tag) ∧
   w1.cell? ⟨bc, 2, none⟩ = some (.int .i64 C.st.misses) ∧ w1.frozen? ⟨bc, 2, none⟩ = false ∧
   (w1.setCell ⟨bc, 2, none⟩ (.int .i64 (wrap64 (C.st.misses + 1)))).cell? ⟨bset, i * 2, none⟩ = some (.slice (some ⟨c.blk, 0, none⟩) c.pls.length c.pls.length) ∧
   (w1.setCell ⟨bc, 2, none⟩ (.int .i64 (wrap64 (C.st.misses + 1)))).there c.blk (j * 7) 7 ∧
   w3.cell? ⟨bc, 4, none⟩ = some (.int .i64 C.st.held) ∧
   w3.frozen? ⟨bc, 4, none⟩ = false ∧
   CAt (w3.setCell ⟨bc, 4, none⟩ (.int .i64 (wrap64 (C.st.held - 1)))) bc bset ⟨C.putPl i j c z0, { C.st with misses := wrap64 (C.st.misses + 1), held := wrap64 (C.st.held - 1) }⟩ ∧
   Keep (OffC bc bset C.L) w (w3.setCell ⟨bc, 4, none⟩ (.int .i64 (wrap64 (C.st.held - 1))))) := fun w1 hb => by
  have h1 := CacheAt.below h hb
  obtain ⟨f1, f2⟩ := plsIn h hb hc hp
  have hoff := h.off c hcm
  have h2 := h1.stat (st' := { C.st with misses := wrap64 (C.st.misses + 1) }) (fun k hk => Below.heap_setCell w1 ⟨bc, 2, none⟩ (.int .i64 (wrap64 (C.st.misses + 1))) k hk) (blk_set h1.top 2 _)
  have hwh := pls_whole (p' := z0) (h2.each c hcm) hjl
  have h3 := h2.pls hc (fun k hk => setCells_far zV.toList (j * 7) k hk) hwh (List.length_set ..)
  have h4 := h3.stat (st' := { C.st with misses := wrap64 (C.st.misses + 1), held := wrap64 (C.st.held - 1) }) (fun k hk => Below.heap_setCell _ ⟨bc, 4, none⟩ (.int .i64 (wrap64 (C.st.held - 1))) k hk) (blk_set h3.top 4 _)
  obtain ⟨g1, g2⟩ := plsIn h2 (Below.refl _ _) hc hp
  have hk2 := ((Keep.refl (OffC bc bset C.L) w).below hb).setCell (p := ⟨bc, 2, none⟩) (fun e => e.1 rfl) (.int .i64 (wrap64 (C.st.misses + 1)))
  obtain ⟨s1, s2, s3, s4⟩ := setCells_same c.blk zV.toList (j * 7) (w1.setCell ⟨bc, 2, none⟩ (.int .i64 (wrap64 (C.st.misses + 1))))
  have hk3 : Keep (OffC bc bset C.L) w ((w1.setCell ⟨bc, 2, none⟩ (.int .i64 (wrap64 (C.st.misses + 1)))).setCells c.blk (j * 7) zV.toList) := hk2.trans ⟨by rw [s4]; exact Nat.le_refl _, fun k hk hF => setCells_far zV.toList (j * 7) k (hF.2.2 c hcm), s1, s2, s3⟩
  exact ⟨_, rfl, f1, f2 4 (.int .i64 p.tag) (by decide) rfl, cellOf h1.top 2 _ rfl, MPut.frozen_of_row h1.top 2, g1, there_pl (h2.each c hcm) hjl, cellOf h3.top 4 _ rfl, MPut.frozen_of_row h3.top 4, h4, hk3.setCell (fun e => e.1 rfl) _⟩
 have HAFT := jA aft
 have hne : (p.tag == tag) = false := by rw [beq_eq_false_iff_ne]; exact ht
 clear h hc hf hat aft hp hcm
 obtain ⟨pt, hpt⟩ : ∃ q, q = p.tag := ⟨_, rfl⟩
 rw [← hpt] at hne HAFT ht
 go_enter Tryz.func104, Tryz.ntmps104
 go_wp2_with (first | (go_at_call 118; (refine HQ.out.mono ?_); rintro e w1 ⟨rfl, hb⟩; obtain ⟨w3, hw3, a1, a2, a3, a4, a5, a6, a7, a8, a9, a10⟩ := HAFT.out w1 hb; have HC9 := jA a9; have HK9 := jA a10; have HTH := jA a6; have HW3 := jA hw3; clear hb a9 a10 a6 hw3) | ((with_reducible refine gate_store (t := 233) (p := 78) (v := .tmp 77) rfl ?_); refine wpList_store_mid rfl 233 (.tmp 78) (.tmp 77) rfl c.blk (j * 7) zV ?hx ?hy HTH.out zV_info zV_one ?_; (case hx => rfl); (case hy => rfl); rw [← HW3.out]))
 go_ret2
 exact ⟨rfl, HC9.out, HK9.out⟩
theorem get_calls (w : World) (bc bset : Nat) (C C' : Cst) (tag s o a : Int) (al hit : Bool) (h : CAt w bc bset C) (hg : getC C tag s o a = some (al, hit, C')) :
  Calls Tryz.prog 104 #[.pointer (some ⟨bc, 0, none⟩), .int .i64 tag, .int .i64 s, .int .i64 o, .int .i64 a] w fun e w' => e = .returned (.tuple #[.bool al, .bool hit]) ∧ CAt w' bc bset C' ∧ Keep (OffC bc bset C.L) w w' := by
 unfold getC at hg
 split at hg
 ·cases hg
 ·rename_i c hc
  split at hg
  ·rename_i hf
   cases hg
   exact get_none w bc bset C tag s o a c h hc hf
  ·rename_i j hf
   split at hg
   ·cases hg
   ·rename_i p hp
    split at hg
    ·rename_i ht
     cases hg
     exact get_hit w bc bset C tag s o a c j p h hc hf hp ht
    ·rename_i ht
     cases hg
     exact get_other w bc bset C tag s o a c j p h hc hf hp ht
end Go.Proofs.YtdgkppldopiaoaaGreat.RCget
/- avc.Cache's Put, walked where there is room. -/
namespace Go.Proofs.YtdgkppldopiaoaaGreat.RCput
open Go.RowKit YtdgkppldopiaoaaGreatW.PrintWords YtdgkppldopiaoaaGreatW.PrintLast YtdgkppldopiaoaaGreatW.PrintMore BMap BRow GDiffer MLines MPol MPut RMem RCells REpoch RMach RCache RCat RCget Go.Maps
open PG
set_option maxHeartbeats 1000000
set_option maxRecDepth 100000
def emptyB (p : Pl) : Bool := (p.held == false) && ((p.k0 == 0 && (p.k1 == 0 && p.k2 == 0)) && ((p.tag == 0) && ((p.al == false) && (p.mark == false))))
theorem agg3 (w : World) : (isAgg 3).run Tryz.prog w = .ok false w := by
 unfold isAgg
 rw [Sem.run_bind, run_underlying Tryz.underlying3 w]
 rfl
theorem agg4 (w : World) : (isAgg 4).run Tryz.prog w = .ok false w := by
 unfold isAgg
 rw [Sem.run_bind, run_underlying Tryz.underlying4 w]
 rfl
theorem agg172 (w : World) : (isAgg 231).run Tryz.prog w = .ok true w := by
 unfold isAgg
 rw [Sem.run_bind, run_underlying Tryz.underlying231 w]
 rfl
theorem part3 (w : World) {A : Array Value} {k : Nat} {v : Value} (h : A[k]? = some v) : (part 3 A k).run Tryz.prog w = .ok v w := by simp [part, Sem.run_bind, agg3, h]
theorem part4 (w : World) {A : Array Value} {k : Nat} {v : Value} (h : A[k]? = some v) : (part 4 A k).run Tryz.prog w = .ok v w := by simp [part, Sem.run_bind, agg4, h]
theorem part172 (w : World) (A : Array Value) (k : Nat) : (part 231 A k).run Tryz.prog w = .ok (.agg (A.extract k (k + 3))) w := by
 obtain ⟨i, hi, hs⟩ := Option.map_eq_some_iff.1 (info231)
 simp [part, Sem.run_bind, agg172, sizeOf, typeInfo, hi, hs]
theorem eq174 (d : Nat) (p : Pl) (w : World) : (Op.equalIn (d + 3) 233 (.agg (plV p).toArray) (.agg zV)).run Tryz.prog w = .ok (emptyB p) w := by
 refine eqA_of Tryz.underlying233 (by kernel_rfl) ?_
 refine eqf_cons rfl (part4 w (v := .bool p.held) rfl) (part4 w (v := .bool false) rfl) (run_equalIn_bool' w _ _ _ _ Tryz.underlying4) ?_
 refine eqf_cons rfl (part172 w _ 1) (part172 w _ 1) (eq172 d p.k0 p.k1 p.k2 0 0 0 w) ?_
 refine eqf_cons rfl (part3 w (v := .int .i64 p.tag) rfl) (part3 w (v := .int .i64 0) rfl) (run_equalIn_int w _ _ _ _ _ _ Tryz.underlying3) ?_
 refine eqf_cons rfl (part4 w (v := .bool p.al) rfl) (part4 w (v := .bool false) rfl) (run_equalIn_bool' w _ _ _ _ Tryz.underlying4) ?_
 exact eqf_last rfl (part4 w (v := .bool p.mark) rfl) (part4 w (v := .bool false) rfl) (run_equalIn_bool' w _ _ _ _ Tryz.underlying4)
theorem exec_load_at {P : Program} {w : World} {ev : Operand → Value} {o : Oper} (ty : TypeId) (x : Operand) (ho : o.op = .load ty x) (a0 : Addr) (hx : ev x = .pointer (some a0)) (cs : List Value) (hc : ∀ j v, cs[j]? = some v → w.cell? (a0.add j) = some v)
  (d : TypeDesc) (hu : P.underlying ty = some d) (hd : aggDesc d = true) (hi : (P.info? ty).map (·.size) = some cs.length) : (execOp ev o).run P w = .ok (.value (.agg cs.toArray)) w := by
 unfold execOp
 simp only [ho, hx, Instr.loadAt, Instr.sureAddr, Sem.run_bind, Sem.run_pure, Result.andThen_ok, run_loadVar_at ty a0 cs hc d hu hd hi]
theorem exec_store_mid {P : Program} {w : World} {ev : Operand → Value} {op : Oper} (ty : TypeId) (x y : Operand) (ho : op.op = .store ty x y)
  (b o : Nat) (cells : Array Value) (hx : ev x = .pointer (some ⟨b, o, none⟩)) (hy : ev y = .agg cells)
  (ht : w.there b o cells.size) (hi : (P.info? ty).map (·.size) = some cells.size) (h1 : cells.all (·.oneCell') = true) : (execOp ev op).run P w = .ok .skip (w.setCells b o cells.toList) := by
 unfold execOp
 simp only [ho, hx, hy, Instr.storeAt, Instr.sureAddr, Sem.run_bind, Sem.run_pure, Result.andThen_ok, run_storeVar_mid w b o ty cells ht hi h1]
def frV (tag s o a : Int) (al : Bool) : Array Value := #[.bool true, .int .i64 s, .int .i64 o, .int .i64 a, .int .i64 tag, .bool al, .bool false]
theorem frV_one (tag s o a : Int) (al : Bool) : (frV tag s o a al).all (·.oneCell') = true := by rw [Array.all_eq_true_iff_forall_mem]; intro v hv; simp [frV] at hv; rcases hv with rfl | rfl | rfl | rfl | rfl | rfl | rfl <;> rfl
theorem frV_info (tag s o a : Int) (al : Bool) : (Tryz.prog.info? 233).map (·.size) = some (frV tag s o a al).size := info3c
def putC (C : Cst) (tag s o a : Int) (al : Bool) : Option Cst :=
 match C.L[C.spot s o a]? with
 | none => none
 | some c => match c.pls.findIdx? (hitB s o a) with
  | some _ => none
  | none => match c.pls.findIdx? emptyB with
   | some j => some ⟨C.putPl (C.spot s o a) j c ⟨true, s, o, a, tag, al, false⟩, { C.st with held := wrap64 (C.st.held + 1) }⟩
   | none => none
theorem cells3 {w : World} {b : Nat} {x y z : Value} {t : TypeId} (h : w.heap[b]? = some (.cells #[x, y, z] t (0, 0))) : ∀ (j : Nat) (v : Value), [x, y, z][j]? = some v → w.cell? ((⟨b, 0, none⟩ : Addr).add j) = some v := by
 intro j v hj
 have hj3 : j < 3 := by have := (List.getElem?_eq_some_iff.1 hj).1; simpa using this
 rcases (by omega : j = 0 ∨ j = 1 ∨ j = 2) with rfl | rfl | rfl
 ·cases hj; exact cellOf h 0 _ rfl
 ·cases hj; exact cellOf h 1 _ rfl
 ·cases hj; exact cellOf h 2 _ rfl
theorem cells7 {w : World} {b : Nat} {vs : List Value} {t : TypeId} (h : w.heap[b]? = some (.cells vs.toArray t (0, 0))) : ∀ (j : Nat) (v : Value), vs[j]? = some v → w.cell? ((⟨b, 0, none⟩ : Addr).add j) = some v := by
 intro j v hj
 have : ((⟨b, 0, none⟩ : Addr).add j) = ⟨b, j, none⟩ := by simp [Addr.add]; try exact fun e => e.symm
 rw [this]
 exact cellOf h j v (by simpa using hj)
theorem put_fresh (w : World) (bc bset : Nat) (C : Cst) (tag s o a : Int) (al : Bool) (c : Cset) (n : Nat) (h : CAt w bc bset C) (hc : C.L[C.spot s o a]? = some c) (hf : c.pls.findIdx? (hitB s o a) = none) (he : c.pls.findIdx? emptyB = some n) :
  Calls Tryz.prog 140 #[.pointer (some ⟨bc, 0, none⟩), .int .i64 tag, .int .i64 s, .int .i64 o, .int .i64 a, .bool al] w fun e w' => e = .returned (.tuple #[]) ∧ CAt w' bc bset ⟨C.putPl (C.spot s o a) n c ⟨true, s, o, a, tag, al, false⟩, { C.st with held := wrap64 (C.st.held + 1) }⟩ ∧ Keep (OffC bc bset C.L) w w' := by
 obtain ⟨w1, hw1⟩ : ∃ q, q = w.alloc (.cells #[.int .i64 s, .int .i64 o, .int .i64 a] 231) := ⟨_, rfl⟩
 have hb1 : Below w.heap.size w w1 := by rw [hw1]; exact below_alloc (Below.refl _ _) _
 have ht1 : w1.heap[w.heap.size]? = some (.cells #[.int .i64 s, .int .i64 o, .int .i64 a] 231 (0, 0)) := by rw [hw1]; exact heap_alloc_new w _
 have h1 := CacheAt.below h hb1
 have hat := at_go w1 bc bset C s o a c h1 hc
 rw [show atI s o a c.pls = -1 by rw [atI, hf]] at hat
 have HQ := jA hat
 have HT1 := jA (cells3 ht1)
 have H1 := jA h1
 have HB1 := jA hb1
 have HTB := jA ht1
 have HC := jA hc
 have hcm := List.mem_of_getElem? hc
 have HCM := jA hcm
 have hw8 := (h.ways c hcm).2
 have HE := jA (List.findIdx?_eq_some_iff_getElem.1 he)
 have hnl : n < c.pls.length := (List.findIdx?_eq_some_iff_getElem.1 he).1
 have HI3 := jA (show (Tryz.prog.info? 231).map (·.size) = some (#[Value.int .i64 s, .int .i64 o, .int .i64 a]).size from info231)
 have HW1 := jA hw1
 have hpmax : c.pls.length ≤ 9223372036854775807 := by omega
 generalize C.spot s o a = i at *
 clear hb1 ht1 h1 hat hc hcm he hf h hw1
 go_enter Tryz.func140, Tryz.ntmps140
 go_upto_region 1 with (first | ((with_reducible refine gate_store (t := 231) (p := 12) (v := .tmp 21) rfl ?_); refine wpList_store_new rfl 231 (.tmp 12) (.tmp 21) rfl _ #[.int .i64 s, .int .i64 o, .int .i64 a] HI3.out rfl (by intro v hv; simp at hv; rcases hv with rfl | rfl | rfl <;> rfl) rfl rfl ?_))
 (try simp only [Act.put])
 rw [← HW1.out]
 go_upto_region 4 with (first | ((with_reducible refine gate_dst (N := 24) rfl ?_); refine wpList_load_at rfl 231 (.tmp 12) rfl ⟨w.heap.size, 0, none⟩ ?hx [Value.int .i64 s, .int .i64 o, .int .i64 a] HT1.out _ Tryz.underlying231 rfl info231 ?_; (case hx => rfl)) | (go_at_call 118; (refine HQ.out.mono ?_); rintro e w2 ⟨rfl, hb2⟩; have HB2 := jA hb2; clear hb2))
 obtain ⟨w3, hw3⟩ : ∃ q, q = w2.alloc (.cells (frV tag s o a al) 233) := ⟨_, rfl⟩
 have ht2 : w2.heap[w.heap.size]? = _ := (HB2.out.block _ (Array.getElem?_eq_some_iff.1 HTB.out).1).trans HTB.out
 have HT2 := jA (cells3 ht2)
 have hb3 : Below w2.heap.size w2 w3 := by rw [hw3]; exact below_alloc (Below.refl _ _) _
 have ht3 : w3.heap[w2.heap.size]? = some (.cells (frV tag s o a al) 233 (0, 0)) := by rw [hw3]; exact heap_alloc_new w2 _
 have h3 := CacheAt.below (CacheAt.below H1.out HB2.out) hb3
 have hk3 : Keep (OffC bc bset C.L) w w3 := (((Keep.refl _ w).below HB1.out).below HB2.out).below hb3
 obtain ⟨g15, hg15⟩ : ∃ q, q = w2.heap.size := ⟨_, rfl⟩
 have HW3 := jA hw3
 have HG15 := jA hg15
 have HT3 := jA ht3
 have H3 := jA h3
 have HK3 := jA hk3
 have b0 := (plsIn h3 (Below.refl _ _) HC.out (List.getElem?_eq_getElem hnl)).1
 have HFI := jA (frV_info tag s o a al)
 have HFO := jA (frV_one tag s o a al)
 have HFL := jA (show (Tryz.prog.info? 233).map (·.size) = some (frV tag s o a al).toList.length from info3c)
 clear ht2 hb3 hw3 ht3 h3 hk3 hg15
 go_upto_region 5 with (first | ((with_reducible refine gate_dst (N := 46) rfl ?_); refine wpList_load_at rfl 231 (.tmp 12) rfl ⟨w.heap.size, 0, none⟩ ?hx [Value.int .i64 s, .int .i64 o, .int .i64 a] HT2.out _ Tryz.underlying231 rfl info231 ?_; (case hx => rfl)) | ((with_reducible refine gate_store (t := 233) (p := 15) (v := .tmp 49) rfl ?_); refine wpList_store_new rfl 233 (.tmp 15) (.tmp 49) rfl _ (frV tag s o a al) HFI.out rfl (by have := HFO.out; rw [Array.all_eq_true_iff_forall_mem] at this; intro v hv; exact this v (by simpa using hv)) ?hy ?hx ?_; (case hx => rfl); (case hy => rfl)))
 (try simp only [Act.put])
 rw [← HW3.out, ← HG15.out]
 go_wp2
 go_loopw [55] (fun u wr => ∃ (k : Nat), k ≤ n ∧ u = .int .i64 k ∧ Aside0 (Below w3.heap.size w3 wr)) (fun u _ => c.pls.length - (intOf u).toNat)
 case atStart => exact ⟨0, Nat.zero_le _, rfl, ⟨Below.refl _ _⟩⟩
 case round =>
  obtain ⟨k, hk, rfl, HR⟩ := hrel
  have hlt : k < c.pls.length := by omega
  obtain ⟨p, hp⟩ : ∃ p, p = c.pls[k] := ⟨_, rfl⟩
  have hpk : c.pls[k]? = some p := by rw [hp]; exact List.getElem?_eq_getElem hlt
  have HPK := jA hpk
  have hr := CacheAt.below H3.out HR.out
  have HCW := jA (pls_cell (hr.each c HCM.out) hpk)
  have c0' : (k : Int) < c.pls.length := by omega
  have b0r := (plsIn hr (Below.refl _ _) HC.out hpk).1
  have hemp : emptyB p = decide (k = n) := by
   rcases (by omega : k < n ∨ k = n) with h' | rfl
   ·have := HE.out.2.2 k h'
    rw [hp, decide_eq_false (by omega)]
    simpa using this
   ·rw [hp, HE.out.2.1]; simp
  have HEMP := jA hemp
  clear hp hpk hr hemp
  go_upto_region 8 with (first | ((with_reducible refine gate_dst (N := 59) rfl ?_); refine wpList_load_at rfl 233 (.tmp 58) rfl ⟨c.blk, k * 7, none⟩ ?hx (plV p) HCW.out _ Tryz.underlying233 rfl info3c ?_; (case hx => rfl)) | ((with_reducible refine gate_store (t := 233) (p := 17) (v := .tmp 59) rfl ?_); refine wpList_store_new rfl 233 (.tmp 17) (.tmp 59) rfl _ (plV p).toArray info3c rfl (by intro v hv; simp at hv; rcases hv with rfl | rfl | rfl | rfl | rfl | rfl | rfl <;> rfl) rfl rfl ?_))
  (try simp only [Act.put])
  have hb4 : Below w3.heap.size w3 (wr.alloc (.cells (plV p).toArray 233)) := below_then HR.out HR.out.size (below_alloc (Below.refl _ _) _)
  have hd := heap_alloc_new wr (.cells (plV p).toArray 233)
  obtain ⟨g17, hg17⟩ : ∃ q, q = wr.heap.size := ⟨_, rfl⟩
  obtain ⟨w4, hw4⟩ : ∃ q, q = (wr.alloc (.cells (plV p).toArray 233)) := ⟨_, rfl⟩
  rw [← hw4] at hb4 hd ⊢
  rw [← hg17] at hd ⊢
  have HD := jA (cells7 hd)
  have h4 := CacheAt.below H3.out hb4
  have b04 := (plsIn h4 (Below.refl _ _) HC.out HPK.out).1
  have H4 := jA h4
  have HB4 := jA hb4
  have hfr : w4.heap[g15]? = some (.cells (frV tag s o a al) 233 (0, 0)) := (hb4.block _ (Array.getElem?_eq_some_iff.1 (HG15.out ▸ HT3.out)).1).trans (HG15.out ▸ HT3.out)
  have HFR := jA (cells7 (vs := (frV tag s o a al).toList) hfr)
  obtain ⟨q, hq⟩ : ∃ q, q = emptyB p := ⟨_, rfl⟩
  have heq : ∀ W, (Op.equalIn 10000 233 (.agg (plV p).toArray) (.agg zV)).run Tryz.prog W = .ok q W := fun W => by rw [hq]; exact eq174 9997 p W
  have HEQ : ∀ W, (Op.equalIn 10000 233 (.agg #[.bool p.held, .int .i64 p.k0, .int .i64 p.k1, .int .i64 p.k2, .int .i64 p.tag, .bool p.al, .bool p.mark]) (.agg #[.bool false, .int .i64 0, .int .i64 0, .int .i64 0, .int .i64 0, .bool false, .bool false])).run Tryz.prog W = .ok q W := heq
  have hqn : q = decide (k = n) := by rw [hq]; exact HEMP.out
  clear hd hb4 h4 hfr hw4 hg17 heq hq b0r
  by_cases hkn : k = n
  ·rw [decide_eq_true hkn] at hqn
   subst hqn
   have HKN := jA hkn
   clear hkn
   go_upto_region 9 with (first | ((with_reducible refine gate_dst (N := 60) rfl ?_); refine wpList_load_at rfl 233 (.tmp 17) rfl ⟨g17, 0, none⟩ ?hx (plV p) HD.out _ Tryz.underlying233 rfl info3c ?_; (case hx => rfl)))
   refine start_ (n := 8) (S := fun w' => w'.cell? ⟨bset, i * 2, none⟩ = some (.slice (some ⟨c.blk, 0, none⟩) c.pls.length c.pls.length) ∧ ∀ (j : Nat) (v : Value), (frV tag s o a al).toList[j]? = some v → w'.cell? ((⟨g15, 0, none⟩ : Addr).add j) = some v) (ds := [7]) (Jb 8 0) (by kernel_rfl) rfl (by kernel_rfl) ⟨b04, HFR.out⟩ (fun hHeld => ?_)
   refine Jp 0 63 (Jb 8 1) rfl rfl ?_
   refine Jp 1 64 (Jb 8 3) rfl rfl ?_
   refine Jp 2 65 (Jb 8 7) rfl rfl ?_
   refine Jk 3 66 (Jb 8 15) rfl rfl hHeld (.inl ⟨by rfl, by rintro w' ⟨s0, s1⟩; go_simp; with_reducible rfl⟩) ?_
   refine Jp 4 67 (Jb 8 31) rfl rfl ?_
   refine Jk 5 68 (Jb 8 63) rfl rfl hHeld (.inl ⟨by rfl, by rintro w' ⟨s0, s1⟩; exact exec_load_at 233 _ rfl ⟨g15, 0, none⟩ rfl (frV tag s o a al).toList s1 _ Tryz.underlying233 rfl HFL.out⟩) ?_
   refine Jp 6 69 (Jb 8 127) rfl rfl ?_
   refine last_ (i := 7) (N := none) (Jb 8 255) rfl rfl (by kernel_rfl) (by decide) (fun K hK => ?_)
   refine GDiffer.step_skip (w' := w4.drew.setCells c.blk (k * 7) (frV tag s o a al).toList) rfl rfl (exec_store_mid 233 _ _ rfl c.blk (k * 7) (frV tag s o a al) rfl rfl (there_pl (H4.out.each c HCM.out) hlt) HFI.out HFO.out) ?_
   refine hK.out _ _ ?_
   clear hK K
   refine done_ (by kernel_rfl) ?_
   have h4 : CacheAt w4.drew bc bset C.L C.st := H4.out.move (fun _ _ _ => rfl)
   have hwh := pls_whole (p' := ⟨true, s, o, a, tag, al, false⟩) (h4.each c HCM.out) hlt
   have h5 := h4.pls HC.out (fun k' hk' => setCells_far (frV tag s o a al).toList (k * 7) k' hk') hwh (List.length_set ..)
   obtain ⟨s1, s2, s3, s4⟩ := setCells_same c.blk (frV tag s o a al).toList (k * 7) w4.drew
   have hk4 : Keep (OffC bc bset C.L) w w4 := HK3.out.trans ⟨HB4.out.size, fun k' hk' _ => HB4.out.block k' hk', HB4.out.os, HB4.out.tape, HB4.out.output⟩
   have hk5 : Keep (OffC bc bset C.L) w (w4.drew.setCells c.blk (k * 7) (frV tag s o a al).toList) := hk4.trans ⟨by rw [s4]; exact Nat.le_refl _, fun k' hk' hF => setCells_far (frV tag s o a al).toList (k * 7) k' (hF.2.2 c HCM.out), s1, s2, s3⟩
   obtain ⟨w5, hw5⟩ : ∃ q, q = w4.drew.setCells c.blk (k * 7) (frV tag s o a al).toList := ⟨_, rfl⟩
   rw [← hw5] at h5 hk5 ⊢
   have d4 := cellOf h5.top 4 (.int .i64 C.st.held) rfl
   have g4 := MPut.frozen_of_row h5.top 4
   have H5 := jA h5
   have HK5 := jA hk5
   clear h4 hwh h5 s1 s2 s3 s4 hk4 hk5 hw5 b04
   go_wp2
   (try simp only [Exit.inBlock, Exit.then])
   refine bodyPost_ret (results_none rfl _ _ _) rfl ?_
   refine ⟨rfl, ?_, HK5.out.setCell (fun e => e.1 rfl) _⟩
   have hres := H5.out.stat (st' := { C.st with held := wrap64 (C.st.held + 1) }) (fun k' hk' => Below.heap_setCell _ ⟨bc, 4, none⟩ (.int .i64 (wrap64 (C.st.held + 1))) k' hk') (blk_set H5.out.top 4 _)
   rw [← HKN.out]
   exact hres
  ·rw [decide_eq_false hkn] at hqn
   subst hqn
   go_wp2_with (first | ((with_reducible refine gate_dst (N := 60) rfl ?_); refine wpList_load_at rfl 233 (.tmp 17) rfl ⟨g17, 0, none⟩ ?hx (plV p) HD.out _ Tryz.underlying233 rfl info3c ?_; (case hx => rfl)))
   go_roundw
   case rel => exact ⟨k + 1, by omega, by go_num, HB4⟩
   case measure => simp [intOf]; omega
theorem put_calls (w : World) (bc bset : Nat) (C C' : Cst) (tag s o a : Int) (al : Bool) (h : CAt w bc bset C) (hg : putC C tag s o a al = some C') :
  Calls Tryz.prog 140 #[.pointer (some ⟨bc, 0, none⟩), .int .i64 tag, .int .i64 s, .int .i64 o, .int .i64 a, .bool al] w fun e w' => e = .returned (.tuple #[]) ∧ CAt w' bc bset C' ∧ Keep (OffC bc bset C.L) w w' := by
 unfold putC at hg
 split at hg
 ·cases hg
 ·rename_i c hc
  split at hg
  ·cases hg
  ·rename_i hf
   split at hg
   ·rename_i n hn
    cases hg
    exact put_fresh w bc bset C tag s o a al c n h hc hf hn
   ·cases hg
end Go.Proofs.YtdgkppldopiaoaaGreat.RCput
/- reader: tag, begin, walked. -/
namespace Go.Proofs.YtdgkppldopiaoaaGreat.RBegin
open Go.RowKit YtdgkppldopiaoaaGreatW.PrintWords YtdgkppldopiaoaaGreatW.PrintLast YtdgkppldopiaoaaGreatW.PrintMore BMap BRow MLines MPut RMem RCells REpoch RMach Go.Maps
open PG
set_option maxHeartbeats 1000000
set_option maxRecDepth 100000
def tagI (flaw : Int) (m : Mst) : Int := if flaw = 2 then m.page else m.ver
theorem tag_calls (w : World) (b bsite bx bm bs : Nat) (cur flaw : Int) (m : Mst) (hm : MachAt w b bsite bx m) (hs : SiteAt w bsite bm bs cur flaw) :
  Calls Tryz.prog 105 #[.pointer (some ⟨b, 0, none⟩)] w fun e w' => e = .returned (.int .i64 (tagI flaw m)) ∧ w' = w := by
 have b0 := cellOf hm 0 (.pointer (some ⟨bsite, 0, none⟩)) rfl
 have b13 := cellOf hm 13 (.int .i64 m.ver) rfl
 have b14 := cellOf hm 14 (.int .i64 m.page) rfl
 have s3 := cellOf hs 3 (.int .i64 flaw) rfl
 clear hm hs
 by_cases hf : flaw = 2
 ·rw [tagI, if_pos hf]
  go_enter Tryz.func105, Tryz.ntmps105
  go_wp2
  go_ret
  exact ⟨rfl, rfl⟩
 ·rw [tagI, if_neg hf]
  go_enter Tryz.func105, Tryz.ntmps105
  go_wp2
  go_ret
  exact ⟨rfl, rfl⟩
def m0 (slot flaw : Int) : Mst := ⟨slot, none, false, 0, 0, 0, some (if flaw = 4 then 61 else 60), -1, false, false, false, 0, 0, 0, 0, 0, 0, 0, 0, 0, 0⟩
abbrev mZ (bsite bx : Nat) (slot : Int) (f : Value) : Array Value := #[.pointer (some ⟨bsite, 0, none⟩), .int .i64 slot, .pointer none, .bool false, .int .i64 0, .int .i64 0, .int .i64 0, .pointer (some ⟨bx, 0, none⟩), f, .int .i64 (-1), .bool false, .bool false, .bool false, .int .i64 0, .int .i64 0, .int .i64 0, .int .i64 0, .int .i64 0, .int .i64 0, .int .i64 0, .int .i64 0, .int .i64 0, .int .i64 0]
theorem begin_calls (w : World) (bsite bm bs : Nat) (cur flaw ep first n slot : Int) (hs : SiteAt w bsite bm bs cur flaw) (hS : SlotsAt w bs bm ep first n) (h0 : 0 ≤ slot) (h1 : slot < n) :
  Calls Tryz.prog 44 #[.pointer (some ⟨bsite, 0, none⟩), .int .i64 slot] w fun e w' => ∃ b, e = .returned (.pointer (some ⟨b, 0, none⟩)) ∧ w.heap.size < b ∧ MachAt w' b bsite w.heap.size (m0 slot flaw) ∧ SecAt w' w.heap.size bs slot 0 0 ∧ Below w.heap.size w w' := by
 have s1 := cellOf hs 1 (.pointer (some ⟨bs, 0, none⟩)) rfl
 have HQ := jA (enter_calls w bm bs ep first n slot hS h0 h1)
 have HS := jA hs
 have aft : ∀ w1, SecAt w1 w.heap.size bs slot 0 0 → Below w.heap.size w w1 → (w.heap.size < w1.heap.size ∧ (w1.alloc (.cells (mZ bsite w.heap.size slot (.func (.func 60) #[.pointer (some ⟨w1.heap.size, 0, none⟩)] #[])) 130)).cell? ⟨bsite, 3, none⟩ = some (.int .i64 flaw) ∧
   (∀ u, MachAt (w1.alloc (.cells (mZ bsite w.heap.size slot (nextV w1.heap.size (some u))) 130)) w1.heap.size bsite w.heap.size { m0 slot flaw with next := some u } ∧ SecAt (w1.alloc (.cells (mZ bsite w.heap.size slot (nextV w1.heap.size (some u))) 130)) w.heap.size bs slot 0 0 ∧ Below w.heap.size w (w1.alloc (.cells (mZ bsite w.heap.size slot (nextV w1.heap.size (some u))) 130)))) := fun w1 hX hb => by
  have hlt : w.heap.size < w1.heap.size := (Array.getElem?_eq_some_iff.1 hX).1
  have hsl := (Array.getElem?_eq_some_iff.1 HS.out).1
  have hsa : (w1.alloc (.cells (mZ bsite w.heap.size slot (.func (.func 60) #[.pointer (some ⟨w1.heap.size, 0, none⟩)] #[])) 130)).heap[bsite]? = some (.cells (siteV bm bs cur flaw) 64 (0, 0)) := ((Below.heap_alloc _ _ _ (by omega)).trans (hb.block _ hsl)).trans HS.out
  exact ⟨hlt, cellOf hsa 3 _ rfl, fun u => ⟨heap_alloc_new w1 _, (Below.heap_alloc _ _ _ hlt).trans hX, below_alloc hb _⟩⟩
 have HAFT := jA aft
 clear hs hS aft
 by_cases hf : flaw = 4
 ·have e1 : m0 slot flaw = { m0 slot flaw with next := some 61 } := by simp [m0, hf]
  rw [e1]
  go_enter Tryz.func44, Tryz.ntmps44
  go_wp2_with (first | (go_at_call 59; (refine HQ.out.mono ?_); rintro e w1 ⟨rfl, hX, hb⟩; obtain ⟨a0, a3, a6⟩ := HAFT.out w1 hX hb; have HA := jA a6; have HLT := jA a0; clear hX hb a6 a0))
  go_ret
  exact ⟨_, rfl, HLT.out, HA.out 61⟩
 ·have e1 : m0 slot flaw = { m0 slot flaw with next := some 60 } := by simp [m0, hf]
  rw [e1]
  go_enter Tryz.func44, Tryz.ntmps44
  go_wp2_with (first | (go_at_call 59; (refine HQ.out.mono ?_); rintro e w1 ⟨rfl, hX, hb⟩; obtain ⟨a0, a3, a6⟩ := HAFT.out w1 hX hb; have HA := jA a6; have HLT := jA a0; clear hX hb a6 a0))
  go_ret
  exact ⟨_, rfl, HLT.out, HA.out 60⟩
end Go.Proofs.YtdgkppldopiaoaaGreat.RBegin
/- reader.Check, Answer, walked. -/
namespace Go.Proofs.YtdgkppldopiaoaaGreat.RCheck
open Go.RowKit YtdgkppldopiaoaaGreatW.PrintWords YtdgkppldopiaoaaGreatW.PrintLast YtdgkppldopiaoaaGreatW.PrintMore BMap BRow MLines MPut RMem RCells REpoch RMach RBegin Go.Maps
open PG
set_option maxHeartbeats 1000000
set_option maxRecDepth 100000
theorem i87 : (Tryz.prog.info? 31).map (·.size) = some 3 := by kernel_rfl
def mC (slot flaw s o a : Int) (c : Nat) : Mst := { m0 slot flaw with cache := some c, check := true, y0 := s, y1 := o, y2 := a }
theorem check_calls (w : World) (bsite bm bs c : Nat) (cur flaw ep first n slot s o a : Int) (hs : SiteAt w bsite bm bs cur flaw) (hS : SlotsAt w bs bm ep first n) (h0 : 0 ≤ slot) (h1 : slot < n) :
  Calls Tryz.prog 17 #[.pointer (some ⟨bsite, 0, none⟩), .int .i64 slot, .pointer (some ⟨c, 0, none⟩), .int .i64 s, .int .i64 o, .int .i64 a] w fun e w' => ∃ b, e = .returned (.pointer (some ⟨b, 0, none⟩)) ∧ w.heap.size < b ∧ MachAt w' b bsite w.heap.size (mC slot flaw s o a c) ∧ SecAt w' w.heap.size bs slot 0 0 ∧ Below w.heap.size w w' := by
 have HQ := jA (begin_calls w bsite bm bs cur flaw ep first n slot hs hS h0 h1)
 have aft : ∀ w1 b, MachAt w1 b bsite w.heap.size (m0 slot flaw) → ((w1).cell? ⟨b, 2, none⟩ = some (.pointer none) ∧ (w1).frozen? ⟨b, 2, none⟩ = false ∧ ((w1).setCell ⟨b, 2, none⟩ (.pointer (some ⟨c, 0, none⟩))).cell? ⟨b, 3, none⟩ = some (.bool false) ∧ ((w1).setCell ⟨b, 2, none⟩ (.pointer (some ⟨c, 0, none⟩))).frozen? ⟨b, 3, none⟩ = false ∧ (((w1).setCell ⟨b, 2, none⟩ (.pointer (some ⟨c, 0, none⟩))).setCell ⟨b, 3, none⟩ (.bool true)).cell? ⟨b, 4, none⟩ = some (.int .i64 0) ∧ (((w1).setCell ⟨b, 2, none⟩ (.pointer (some ⟨c, 0, none⟩))).setCell ⟨b, 3, none⟩ (.bool true)).frozen? ⟨b, 4, none⟩ = false ∧ ((((w1).setCell ⟨b, 2, none⟩ (.pointer (some ⟨c, 0, none⟩))).setCell ⟨b, 3, none⟩ (.bool true)).setCell ⟨b, 4, none⟩ (.int .i64 s)).cell? ⟨b, 5, none⟩ = some (.int .i64 0) ∧ ((((w1).setCell ⟨b, 2, none⟩ (.pointer (some ⟨c, 0, none⟩))).setCell ⟨b, 3, none⟩ (.bool true)).setCell ⟨b, 4, none⟩ (.int .i64 s)).frozen? ⟨b, 5, none⟩ = false ∧ (((((w1).setCell ⟨b, 2, none⟩ (.pointer (some ⟨c, 0, none⟩))).setCell ⟨b, 3, none⟩ (.bool true)).setCell ⟨b, 4, none⟩ (.int .i64 s)).setCell ⟨b, 5, none⟩ (.int .i64 o)).cell? ⟨b, 6, none⟩ = some (.int .i64 0) ∧ (((((w1).setCell ⟨b, 2, none⟩ (.pointer (some ⟨c, 0, none⟩))).setCell ⟨b, 3, none⟩ (.bool true)).setCell ⟨b, 4, none⟩ (.int .i64 s)).setCell ⟨b, 5, none⟩ (.int .i64 o)).frozen? ⟨b, 6, none⟩ = false ∧ MachAt ((((((w1).setCell ⟨b, 2, none⟩ (.pointer (some ⟨c, 0, none⟩))).setCell ⟨b, 3, none⟩ (.bool true)).setCell ⟨b, 4, none⟩ (.int .i64 s)).setCell ⟨b, 5, none⟩ (.int .i64 o)).setCell ⟨b, 6, none⟩ (.int .i64 a)) b bsite w.heap.size (mC slot flaw s o a c) ∧ Only b w1 ((((((w1).setCell ⟨b, 2, none⟩ (.pointer (some ⟨c, 0, none⟩))).setCell ⟨b, 3, none⟩ (.bool true)).setCell ⟨b, 4, none⟩ (.int .i64 s)).setCell ⟨b, 5, none⟩ (.int .i64 o)).setCell ⟨b, 6, none⟩ (.int .i64 a))) := fun w1 b hm => by
  have k0 := blk_set hm 2 (.pointer (some ⟨c, 0, none⟩))
  have k1 := blk_set k0 3 (.bool true)
  have k2 := blk_set k1 4 (.int .i64 s)
  have k3 := blk_set k2 5 (.int .i64 o)
  have k4 := blk_set k3 6 (.int .i64 a)
  exact ⟨cellOf hm 2 _ rfl, MPut.frozen_of_row hm 2, cellOf k0 3 _ rfl, MPut.frozen_of_row k0 3, cellOf k1 4 _ rfl, MPut.frozen_of_row k1 4, cellOf k2 5 _ rfl, MPut.frozen_of_row k2 5, cellOf k3 6 _ rfl, MPut.frozen_of_row k3 6, k4, (((((Only.refl b w1).setCell 2 _).setCell 3 _).setCell 4 _).setCell 5 _).setCell 6 _⟩
 have HAFT := jA aft
 clear hs hS aft
 go_enter Tryz.func17, Tryz.ntmps17
 go_wp2_with (first | (go_at_call 44; (refine HQ.out.mono ?_); rintro e w1 ⟨b, rfl, hlt, hm, hx, hb⟩; obtain ⟨f0, f1, f2, f3, f4, f5, f6, f7, f8, f9, f10, f11⟩ := HAFT.out w1 b hm; have HA := jA f10; have HO := jA f11; have HX := jA hx; have HB := jA hb; have HLT := jA hlt; clear hm hx hb f10 f11 hlt))
 go_ret
 refine ⟨_, rfl, HLT.out, HA.out, (HO.out.at_ _ (by have := HLT.out; omega)).trans HX.out, ?_⟩
 have hl' : w.heap.size ≤ b := Nat.le_of_lt HLT.out
 exact Below.setCell (Below.setCell (Below.setCell (Below.setCell (Below.setCell HB.out hl' _) hl' _) hl' _) hl' _) hl' _
end Go.Proofs.YtdgkppldopiaoaaGreat.RCheck
/- reader.Machine.Step: whatever comes next, walked: one statement for each function that may be next. -/
namespace Go.Proofs.YtdgkppldopiaoaaGreat.RMStep
open Go.RowKit YtdgkppldopiaoaaGreatW.PrintWords YtdgkppldopiaoaaGreatW.PrintLast YtdgkppldopiaoaaGreatW.PrintMore BMap BRow MLines MPut RMem RCells REpoch RMach Go.Maps
open PG
set_option maxHeartbeats 1000000
set_option maxRecDepth 100000
theorem fneq (fn : Fn) (a c : Array Value) (w : World) : (binOp .neq 128 (.func fn a c) .nilFunc).run Tryz.prog w = .ok (.bool true) w := by rfl
theorem feql (fn : Fn) (a c : Array Value) (w : World) : (binOp .eql 128 (.func fn a c) .nilFunc).run Tryz.prog w = .ok (.bool false) w := by rfl
theorem neql (w : World) : (binOp .eql 128 .nilFunc .nilFunc).run Tryz.prog w = .ok (.bool true) w := by rfl
theorem step49_some (w : World) (b bsite bx : Nat) (m m' : Mst) (now : Int) (g : Nat) (R : World → Prop) (hm : MachAt w b bsite bx m) (hn : m.next = some 60) (hn' : m'.next = some g)
  (hQ : Calls Tryz.prog 60 #[.pointer (some ⟨b, 0, none⟩), .int .i64 now] w fun e w' => e = .returned (.tuple #[]) ∧ MachAt w' b bsite bx m' ∧ R w') :
  Calls Tryz.prog 36 #[.pointer (some ⟨b, 0, none⟩), .int .i64 now] w fun e w' => e = .returned (.bool false) ∧ MachAt w' b bsite bx m' ∧ R w' := by
 have c8 := cellOf hm 8 (nextV b m.next) rfl
 rw [hn] at c8
 have c8' : w.cell? ⟨b, 8, none⟩ = some (.func (.func 60) #[.pointer (some ⟨b, 0, none⟩)] #[]) := c8
 have aft : ∀ w1, MachAt w1 b bsite bx m' → w1.cell? ⟨b, 8, none⟩ = some (.func (.func g) #[.pointer (some ⟨b, 0, none⟩)] #[]) := fun w1 h => by
  have := cellOf h 8 (nextV b m'.next) rfl
  rw [hn'] at this
  exact this
 have HQ := jA hQ
 have HAFT := jA aft
 clear hm hn hn' hQ c8 aft
 have q1 := fneq
 have q2 := feql
 have q3 := neql
 go_enter Tryz.func36, Tryz.ntmps36
 go_wp2_with (first | (go_at_call 60; (refine HQ.out.mono ?_); rintro e w1 ⟨rfl, hm1, hr1⟩; have d8 := HAFT.out w1 hm1; have HM := jA hm1; have HR := jA hr1; clear hm1 hr1))
 go_ret
 exact ⟨rfl, HM.out, HR.out⟩
theorem step50_some (w : World) (b bsite bx : Nat) (m m' : Mst) (now : Int) (g : Nat) (R : World → Prop) (hm : MachAt w b bsite bx m) (hn : m.next = some 61) (hn' : m'.next = some g)
  (hQ : Calls Tryz.prog 61 #[.pointer (some ⟨b, 0, none⟩), .int .i64 now] w fun e w' => e = .returned (.tuple #[]) ∧ MachAt w' b bsite bx m' ∧ R w') :
  Calls Tryz.prog 36 #[.pointer (some ⟨b, 0, none⟩), .int .i64 now] w fun e w' => e = .returned (.bool false) ∧ MachAt w' b bsite bx m' ∧ R w' := by
 have c8 := cellOf hm 8 (nextV b m.next) rfl
 rw [hn] at c8
 have c8' : w.cell? ⟨b, 8, none⟩ = some (.func (.func 61) #[.pointer (some ⟨b, 0, none⟩)] #[]) := c8
 have aft : ∀ w1, MachAt w1 b bsite bx m' → w1.cell? ⟨b, 8, none⟩ = some (.func (.func g) #[.pointer (some ⟨b, 0, none⟩)] #[]) := fun w1 h => by
  have := cellOf h 8 (nextV b m'.next) rfl
  rw [hn'] at this
  exact this
 have HQ := jA hQ
 have HAFT := jA aft
 clear hm hn hn' hQ c8 aft
 have q1 := fneq
 have q2 := feql
 have q3 := neql
 go_enter Tryz.func36, Tryz.ntmps36
 go_wp2_with (first | (go_at_call 61; (refine HQ.out.mono ?_); rintro e w1 ⟨rfl, hm1, hr1⟩; have d8 := HAFT.out w1 hm1; have HM := jA hm1; have HR := jA hr1; clear hm1 hr1))
 go_ret
 exact ⟨rfl, HM.out, HR.out⟩
theorem step60_some (w : World) (b bsite bx : Nat) (m m' : Mst) (now : Int) (g : Nat) (R : World → Prop) (hm : MachAt w b bsite bx m) (hn : m.next = some 84) (hn' : m'.next = some g)
  (hQ : Calls Tryz.prog 84 #[.pointer (some ⟨b, 0, none⟩), .int .i64 now] w fun e w' => e = .returned (.tuple #[]) ∧ MachAt w' b bsite bx m' ∧ R w') :
  Calls Tryz.prog 36 #[.pointer (some ⟨b, 0, none⟩), .int .i64 now] w fun e w' => e = .returned (.bool false) ∧ MachAt w' b bsite bx m' ∧ R w' := by
 have c8 := cellOf hm 8 (nextV b m.next) rfl
 rw [hn] at c8
 have c8' : w.cell? ⟨b, 8, none⟩ = some (.func (.func 84) #[.pointer (some ⟨b, 0, none⟩)] #[]) := c8
 have aft : ∀ w1, MachAt w1 b bsite bx m' → w1.cell? ⟨b, 8, none⟩ = some (.func (.func g) #[.pointer (some ⟨b, 0, none⟩)] #[]) := fun w1 h => by
  have := cellOf h 8 (nextV b m'.next) rfl
  rw [hn'] at this
  exact this
 have HQ := jA hQ
 have HAFT := jA aft
 clear hm hn hn' hQ c8 aft
 have q1 := fneq
 have q2 := feql
 have q3 := neql
 go_enter Tryz.func36, Tryz.ntmps36
 go_wp2_with (first | (go_at_call 84; (refine HQ.out.mono ?_); rintro e w1 ⟨rfl, hm1, hr1⟩; have d8 := HAFT.out w1 hm1; have HM := jA hm1; have HR := jA hr1; clear hm1 hr1))
 go_ret
 exact ⟨rfl, HM.out, HR.out⟩
theorem step72_some (w : World) (b bsite bx : Nat) (m m' : Mst) (now : Int) (g : Nat) (R : World → Prop) (hm : MachAt w b bsite bx m) (hn : m.next = some 106) (hn' : m'.next = some g)
  (hQ : Calls Tryz.prog 106 #[.pointer (some ⟨b, 0, none⟩), .int .i64 now] w fun e w' => e = .returned (.tuple #[]) ∧ MachAt w' b bsite bx m' ∧ R w') :
  Calls Tryz.prog 36 #[.pointer (some ⟨b, 0, none⟩), .int .i64 now] w fun e w' => e = .returned (.bool false) ∧ MachAt w' b bsite bx m' ∧ R w' := by
 have c8 := cellOf hm 8 (nextV b m.next) rfl
 rw [hn] at c8
 have c8' : w.cell? ⟨b, 8, none⟩ = some (.func (.func 106) #[.pointer (some ⟨b, 0, none⟩)] #[]) := c8
 have aft : ∀ w1, MachAt w1 b bsite bx m' → w1.cell? ⟨b, 8, none⟩ = some (.func (.func g) #[.pointer (some ⟨b, 0, none⟩)] #[]) := fun w1 h => by
  have := cellOf h 8 (nextV b m'.next) rfl
  rw [hn'] at this
  exact this
 have HQ := jA hQ
 have HAFT := jA aft
 clear hm hn hn' hQ c8 aft
 have q1 := fneq
 have q2 := feql
 have q3 := neql
 go_enter Tryz.func36, Tryz.ntmps36
 go_wp2_with (first | (go_at_call 106; (refine HQ.out.mono ?_); rintro e w1 ⟨rfl, hm1, hr1⟩; have d8 := HAFT.out w1 hm1; have HM := jA hm1; have HR := jA hr1; clear hm1 hr1))
 go_ret
 exact ⟨rfl, HM.out, HR.out⟩
theorem step88_some (w : World) (b bsite bx : Nat) (m m' : Mst) (now : Int) (g : Nat) (R : World → Prop) (hm : MachAt w b bsite bx m) (hn : m.next = some 127) (hn' : m'.next = some g)
  (hQ : Calls Tryz.prog 127 #[.pointer (some ⟨b, 0, none⟩), .int .i64 now] w fun e w' => e = .returned (.tuple #[]) ∧ MachAt w' b bsite bx m' ∧ R w') :
  Calls Tryz.prog 36 #[.pointer (some ⟨b, 0, none⟩), .int .i64 now] w fun e w' => e = .returned (.bool false) ∧ MachAt w' b bsite bx m' ∧ R w' := by
 have c8 := cellOf hm 8 (nextV b m.next) rfl
 rw [hn] at c8
 have c8' : w.cell? ⟨b, 8, none⟩ = some (.func (.func 127) #[.pointer (some ⟨b, 0, none⟩)] #[]) := c8
 have aft : ∀ w1, MachAt w1 b bsite bx m' → w1.cell? ⟨b, 8, none⟩ = some (.func (.func g) #[.pointer (some ⟨b, 0, none⟩)] #[]) := fun w1 h => by
  have := cellOf h 8 (nextV b m'.next) rfl
  rw [hn'] at this
  exact this
 have HQ := jA hQ
 have HAFT := jA aft
 clear hm hn hn' hQ c8 aft
 have q1 := fneq
 have q2 := feql
 have q3 := neql
 go_enter Tryz.func36, Tryz.ntmps36
 go_wp2_with (first | (go_at_call 127; (refine HQ.out.mono ?_); rintro e w1 ⟨rfl, hm1, hr1⟩; have d8 := HAFT.out w1 hm1; have HM := jA hm1; have HR := jA hr1; clear hm1 hr1))
 go_ret
 exact ⟨rfl, HM.out, HR.out⟩
theorem step90_some (w : World) (b bsite bx : Nat) (m m' : Mst) (now : Int) (g : Nat) (R : World → Prop) (hm : MachAt w b bsite bx m) (hn : m.next = some 133) (hn' : m'.next = some g)
  (hQ : Calls Tryz.prog 133 #[.pointer (some ⟨b, 0, none⟩), .int .i64 now] w fun e w' => e = .returned (.tuple #[]) ∧ MachAt w' b bsite bx m' ∧ R w') :
  Calls Tryz.prog 36 #[.pointer (some ⟨b, 0, none⟩), .int .i64 now] w fun e w' => e = .returned (.bool false) ∧ MachAt w' b bsite bx m' ∧ R w' := by
 have c8 := cellOf hm 8 (nextV b m.next) rfl
 rw [hn] at c8
 have c8' : w.cell? ⟨b, 8, none⟩ = some (.func (.func 133) #[.pointer (some ⟨b, 0, none⟩)] #[]) := c8
 have aft : ∀ w1, MachAt w1 b bsite bx m' → w1.cell? ⟨b, 8, none⟩ = some (.func (.func g) #[.pointer (some ⟨b, 0, none⟩)] #[]) := fun w1 h => by
  have := cellOf h 8 (nextV b m'.next) rfl
  rw [hn'] at this
  exact this
 have HQ := jA hQ
 have HAFT := jA aft
 clear hm hn hn' hQ c8 aft
 have q1 := fneq
 have q2 := feql
 have q3 := neql
 go_enter Tryz.func36, Tryz.ntmps36
 go_wp2_with (first | (go_at_call 133; (refine HQ.out.mono ?_); rintro e w1 ⟨rfl, hm1, hr1⟩; have d8 := HAFT.out w1 hm1; have HM := jA hm1; have HR := jA hr1; clear hm1 hr1))
 go_ret
 exact ⟨rfl, HM.out, HR.out⟩
theorem step92_some (w : World) (b bsite bx : Nat) (m m' : Mst) (now : Int) (g : Nat) (R : World → Prop) (hm : MachAt w b bsite bx m) (hn : m.next = some 139) (hn' : m'.next = some g)
  (hQ : Calls Tryz.prog 139 #[.pointer (some ⟨b, 0, none⟩), .int .i64 now] w fun e w' => e = .returned (.tuple #[]) ∧ MachAt w' b bsite bx m' ∧ R w') :
  Calls Tryz.prog 36 #[.pointer (some ⟨b, 0, none⟩), .int .i64 now] w fun e w' => e = .returned (.bool false) ∧ MachAt w' b bsite bx m' ∧ R w' := by
 have c8 := cellOf hm 8 (nextV b m.next) rfl
 rw [hn] at c8
 have c8' : w.cell? ⟨b, 8, none⟩ = some (.func (.func 139) #[.pointer (some ⟨b, 0, none⟩)] #[]) := c8
 have aft : ∀ w1, MachAt w1 b bsite bx m' → w1.cell? ⟨b, 8, none⟩ = some (.func (.func g) #[.pointer (some ⟨b, 0, none⟩)] #[]) := fun w1 h => by
  have := cellOf h 8 (nextV b m'.next) rfl
  rw [hn'] at this
  exact this
 have HQ := jA hQ
 have HAFT := jA aft
 clear hm hn hn' hQ c8 aft
 have q1 := fneq
 have q2 := feql
 have q3 := neql
 go_enter Tryz.func36, Tryz.ntmps36
 go_wp2_with (first | (go_at_call 139; (refine HQ.out.mono ?_); rintro e w1 ⟨rfl, hm1, hr1⟩; have d8 := HAFT.out w1 hm1; have HM := jA hm1; have HR := jA hr1; clear hm1 hr1))
 go_ret
 exact ⟨rfl, HM.out, HR.out⟩
theorem step94_some (w : World) (b bsite bx : Nat) (m m' : Mst) (now : Int) (g : Nat) (R : World → Prop) (hm : MachAt w b bsite bx m) (hn : m.next = some 142) (hn' : m'.next = some g)
  (hQ : Calls Tryz.prog 142 #[.pointer (some ⟨b, 0, none⟩), .int .i64 now] w fun e w' => e = .returned (.tuple #[]) ∧ MachAt w' b bsite bx m' ∧ R w') :
  Calls Tryz.prog 36 #[.pointer (some ⟨b, 0, none⟩), .int .i64 now] w fun e w' => e = .returned (.bool false) ∧ MachAt w' b bsite bx m' ∧ R w' := by
 have c8 := cellOf hm 8 (nextV b m.next) rfl
 rw [hn] at c8
 have c8' : w.cell? ⟨b, 8, none⟩ = some (.func (.func 142) #[.pointer (some ⟨b, 0, none⟩)] #[]) := c8
 have aft : ∀ w1, MachAt w1 b bsite bx m' → w1.cell? ⟨b, 8, none⟩ = some (.func (.func g) #[.pointer (some ⟨b, 0, none⟩)] #[]) := fun w1 h => by
  have := cellOf h 8 (nextV b m'.next) rfl
  rw [hn'] at this
  exact this
 have HQ := jA hQ
 have HAFT := jA aft
 clear hm hn hn' hQ c8 aft
 have q1 := fneq
 have q2 := feql
 have q3 := neql
 go_enter Tryz.func36, Tryz.ntmps36
 go_wp2_with (first | (go_at_call 142; (refine HQ.out.mono ?_); rintro e w1 ⟨rfl, hm1, hr1⟩; have d8 := HAFT.out w1 hm1; have HM := jA hm1; have HR := jA hr1; clear hm1 hr1))
 go_ret
 exact ⟨rfl, HM.out, HR.out⟩
theorem step69_none (w : World) (b bsite bx : Nat) (m m' : Mst) (now : Int) (R : World → Prop) (hm : MachAt w b bsite bx m) (hn : m.next = some 103) (hn' : m'.next = none)
  (hQ : Calls Tryz.prog 103 #[.pointer (some ⟨b, 0, none⟩), .int .i64 now] w fun e w' => e = .returned (.tuple #[]) ∧ MachAt w' b bsite bx m' ∧ R w') :
  Calls Tryz.prog 36 #[.pointer (some ⟨b, 0, none⟩), .int .i64 now] w fun e w' => e = .returned (.bool true) ∧ MachAt w' b bsite bx m' ∧ R w' := by
 have c8 := cellOf hm 8 (nextV b m.next) rfl
 rw [hn] at c8
 have c8' : w.cell? ⟨b, 8, none⟩ = some (.func (.func 103) #[.pointer (some ⟨b, 0, none⟩)] #[]) := c8
 have aft : ∀ w1, MachAt w1 b bsite bx m' → w1.cell? ⟨b, 8, none⟩ = some (.nilFunc) := fun w1 h => by
  have := cellOf h 8 (nextV b m'.next) rfl
  rw [hn'] at this
  exact this
 have HQ := jA hQ
 have HAFT := jA aft
 clear hm hn hn' hQ c8 aft
 have q1 := fneq
 have q2 := feql
 have q3 := neql
 go_enter Tryz.func36, Tryz.ntmps36
 go_wp2_with (first | (go_at_call 103; (refine HQ.out.mono ?_); rintro e w1 ⟨rfl, hm1, hr1⟩; have d8 := HAFT.out w1 hm1; have HM := jA hm1; have HR := jA hr1; clear hm1 hr1))
 go_ret
 exact ⟨rfl, HM.out, HR.out⟩
end Go.Proofs.YtdgkppldopiaoaaGreat.RMStep
/- reader.Machine's version, walked. -/
namespace Go.Proofs.YtdgkppldopiaoaaGreat.RVer
open Go.RowKit YtdgkppldopiaoaaGreatW.PrintWords YtdgkppldopiaoaaGreatW.PrintLast YtdgkppldopiaoaaGreatW.PrintMore BMap BRow GDiffer MLines MPol MPut RMem RCells REpoch RMach RSteps RSeek RLook RNum RCache RBegin RCat RCget RCput Go.Maps
open PG
set_option maxHeartbeats 1000000
set_option maxRecDepth 100000
structure Cd (F : Nat → Prop) (S : Sh) (w : World) (bc bset : Nat) (C : Cst) : Prop where
 at_ : CAt w bc bset C
 own : ∀ k, ¬ OffC bc bset C.L k → F k ∧ k ≠ S.b ∧ k ≠ S.bsite ∧ k ≠ S.bs ∧ k ≠ S.bx
theorem Cd.keep {F : Nat → Prop} {S : Sh} {w w1 : World} {bc bset : Nat} {C : Cst} (h : Cd F S w bc bset C) (hk : Keep (Out F S.b) w w1) : Cd F S w1 bc bset C :=
 ⟨CacheAt.move h.at_ (fun k hk' hn => hk.at_ k hk' ⟨(h.own k hn).1, (h.own k hn).2.1⟩), h.own⟩
theorem rd_cache {F : Nat → Prop} {S : Sh} {w w1 : World} {x : X} {bc bset : Nat} {C : Cst} (h : Rd F S w x) (hc : Cd F S w bc bset C) (hk : Keep (OffC bc bset C.L) w w1) : Rd F S w1 x := by
 have off : ∀ k, (¬ F k ∨ k = S.b ∨ k = S.bsite ∨ k = S.bs ∨ k = S.bx) → OffC bc bset C.L k := fun k hk => by
  apply Classical.byContradiction
  intro hn
  have := hc.own k hn
  rcases hk with h | h | h | h | h
  ·exact h this.1
  ·exact this.2.1 h
  ·exact this.2.2.1 h
  ·exact this.2.2.2.1 h
  ·exact this.2.2.2.2 h
 have st : ∀ {k : Nat} {cs : Array Value} {t : TypeId}, OffC bc bset C.L k → w.heap[k]? = some (.cells cs t (0, 0)) → w1.heap[k]? = some (.cells cs t (0, 0)) := fun ho e => (hk.at_ _ (Array.getElem?_eq_some_iff.1 e).1 ho).trans e
 exact { h with
  mem := by
   obtain ⟨tv, hM⟩ := h.mem
   exact ⟨tv, { hM with
    mem := st (off _ (.inl hM.fm)) hM.mem
    words := st (off _ (.inl hM.fw)) hM.words
    row := R_stay rfl hM.row (fun k hk' hlt => hk.at_ _ hlt (off _ (.inl (hM.row.1 k hk').2.2)))
    lt := fun k hF => Nat.lt_of_lt_of_le (hM.lt k hF) hk.size }⟩
  site := st (off _ (.inr (.inr (.inl rfl)))) h.site
  slots := st (off _ (.inr (.inr (.inr (.inl rfl))))) h.slots
  mach := st (off _ (.inr (.inl rfl))) h.mach
  sec := st (off _ (.inr (.inr (.inr (.inr rfl))))) h.sec }
theorem OffC_putPl {C : Cst} {i j : Nat} {c : Cset} {p : Pl} {bc bset k : Nat} (hc : C.L[i]? = some c) (h : OffC bc bset C.L k) : OffC bc bset (C.putPl i j c p) k := OffC.set (c' := { c with pls := c.pls.set j p }) hc rfl h
theorem getC_off {C C' : Cst} {tag s o a : Int} {al hit : Bool} {bc bset : Nat} (hg : getC C tag s o a = some (al, hit, C')) : ∀ k, OffC bc bset C.L k → OffC bc bset C'.L k := by
 unfold getC at hg
 split at hg
 ·cases hg
 ·rename_i c hc
  split at hg
  ·cases hg; exact fun k h => h
  ·split at hg
   ·cases hg
   ·split at hg
    ·cases hg; exact fun k h => OffC_putPl hc h
    ·cases hg; exact fun k h => OffC_putPl hc h
theorem putC_off {C C' : Cst} {tag s o a : Int} {al : Bool} {bc bset : Nat} (hg : putC C tag s o a al = some C') : ∀ k, OffC bc bset C.L k → OffC bc bset C'.L k := by
 unfold putC at hg
 split at hg
 ·cases hg
 ·rename_i c hc
  split at hg
  ·cases hg
  ·split at hg
   ·cases hg; exact fun k h => OffC_putPl hc h
   ·cases hg
theorem mach4 {w : World} {b bsite bx bc : Nat} {m : Mst} {y0 y1 y2 : Int} (h : MachAt w b bsite bx m) (hc : m.cache = some bc) (h0 : m.y0 = y0) (h1 : m.y1 = y1) (h2 : m.y2 = y2) :
  w.cell? ⟨b, 2, none⟩ = some (.pointer (some ⟨bc, 0, none⟩)) ∧ w.cell? ⟨b, 4, none⟩ = some (.int .i64 y0) ∧ w.cell? ⟨b, 5, none⟩ = some (.int .i64 y1) ∧ w.cell? ⟨b, 6, none⟩ = some (.int .i64 y2) := by
 subst h0
 subst h1
 subst h2
 have c2 := cellOf h 2 (cacheV m.cache) rfl
 rw [hc] at c2
 exact ⟨c2, cellOf h 4 _ rfl, cellOf h 5 _ rfl, cellOf h 6 _ rfl⟩
def verM (m : Mst) (v : Int) : Mst := { m with next := some 103, ver := v }
def gotM (m : Mst) (al hit : Bool) : Mst := { m with al := al, hit := hit, next := if hit then m.next else some 106 }
theorem version_bad (F : Nat → Prop) (S : Sh) (w : World) (x : X) (now : Int) (h : Rd F S w x) (hl : x.tr.length < 1000000000000) (h0 : lkE x.ws x.m.page ≠ 0) :
  Calls Tryz.prog 84 #[.pointer (some ⟨S.b, 0, none⟩), .int .i64 now] w fun e w' => e = .returned (.tuple #[]) ∧ Rd F S w' { x.acc x.m.page with m := brk x.m } ∧ Keep (Out F S.b) w w' := by
 have k1 := blk_set h.mach 8 (.func (.func 103) #[.pointer (some ⟨S.b, 0, none⟩)] #[])
 have c8 := cellOf h.mach 8 (nextV S.b x.m.next) rfl
 have g8 := MPut.frozen_of_row h.mach 8
 obtain ⟨w1, hw1⟩ : ∃ q, q = w.setCell ⟨S.b, 8, none⟩ (.func (.func 103) #[.pointer (some ⟨S.b, 0, none⟩)] #[]) := ⟨_, rfl⟩
 have o1 : Only S.b w w1 := by rw [hw1]; exact (Only.refl S.b w).setCell 8 _
 rw [← hw1] at k1
 have r1 : Rd F S w1 { x with m := { x.m with next := some 103 } } := h.put o1 k1 rfl
 have b14 := cellOf k1 14 (.int .i64 x.m.page) rfl
 have HQ := jA (mload_bad F S w1 { x with m := { x.m with next := some 103 } } x.m.page r1 hl h0)
 have HO1 := jA (o1.keep F)
 clear k1 o1 r1 h hl h0
 subst hw1
 go_enter Tryz.func84, Tryz.ntmps84
 go_wp2_with (first | (go_at_call 85; (refine HQ.out.mono ?_); rintro e w2 ⟨rfl, hR2, hK2⟩; have HR2 := jA hR2; have HK2 := jA (HO1.out.trans hK2); clear hR2 hK2))
 (try simp only [Exit.inBlock, Exit.then])
 refine bodyPost_ret (results_none rfl _ _ _) rfl ?_
 exact ⟨rfl, HR2.out, HK2.out⟩
theorem version_plain (F : Nat → Prop) (S : Sh) (w : World) (x : X) (now v : Int) (h : Rd F S w x) (hl : x.tr.length < 1000000000000) (h0 : lkE x.ws x.m.page = 0) (hv : lkV x.ws x.m.page = v) (hc : x.m.check = false) :
  Calls Tryz.prog 84 #[.pointer (some ⟨S.b, 0, none⟩), .int .i64 now] w fun e w' => e = .returned (.tuple #[]) ∧ Rd F S w' { x.acc x.m.page with m := verM x.m v } ∧ Keep (Out F S.b) w w' := by
 have k1 := blk_set h.mach 8 (.func (.func 103) #[.pointer (some ⟨S.b, 0, none⟩)] #[])
 have c8 := cellOf h.mach 8 (nextV S.b x.m.next) rfl
 have g8 := MPut.frozen_of_row h.mach 8
 obtain ⟨w1, hw1⟩ : ∃ q, q = w.setCell ⟨S.b, 8, none⟩ (.func (.func 103) #[.pointer (some ⟨S.b, 0, none⟩)] #[]) := ⟨_, rfl⟩
 have o1 : Only S.b w w1 := by rw [hw1]; exact (Only.refl S.b w).setCell 8 _
 rw [← hw1] at k1
 have r1 : Rd F S w1 { x with m := { x.m with next := some 103 } } := h.put o1 k1 rfl
 have b14 := cellOf k1 14 (.int .i64 x.m.page) rfl
 obtain ⟨m1, hm1⟩ : ∃ m1, m1 = verM x.m v := ⟨_, rfl⟩
 have aft : ∀ w2, Rd F S w2 { x.acc x.m.page with m := { x.m with next := some 103 } } → (w2.cell? ⟨S.b, 13, none⟩ = some (.int .i64 x.m.ver) ∧ w2.frozen? ⟨S.b, 13, none⟩ = false ∧ (w2.setCell ⟨S.b, 13, none⟩ (.int .i64 v)).cell? ⟨S.b, 3, none⟩ = some (.bool x.m.check) ∧ (w2.setCell ⟨S.b, 13, none⟩ (.int .i64 v)).cell? ⟨S.b, 2, none⟩ = some (cacheV x.m.cache) ∧
   (w2.setCell ⟨S.b, 13, none⟩ (.int .i64 v)).cell? ⟨S.b, 8, none⟩ = some (.func (.func 103) #[.pointer (some ⟨S.b, 0, none⟩)] #[]) ∧ (w2.setCell ⟨S.b, 13, none⟩ (.int .i64 v)).frozen? ⟨S.b, 8, none⟩ = false ∧
   Rd F S (w2.setCell ⟨S.b, 13, none⟩ (.int .i64 v)) { x.acc x.m.page with m := m1 } ∧ Keep (Out F S.b) w2 (w2.setCell ⟨S.b, 13, none⟩ (.int .i64 v))) := fun w2 r => by
  have kk := blk_set r.mach 13 (.int .i64 v)
  have oo := (Only.refl S.b w2).setCell 13 (.int .i64 v)
  exact ⟨cellOf r.mach 13 _ rfl, MPut.frozen_of_row r.mach 13, cellOf kk 3 _ rfl, cellOf kk 2 _ rfl, cellOf kk 8 _ rfl, MPut.frozen_of_row kk 8, by rw [hm1]; exact r.put oo kk rfl, oo.keep F⟩
 have HAFT := jA aft
 have HQ := jA (mload_ok F S w1 { x with m := { x.m with next := some 103 } } x.m.page r1 hl h0)
 rw [show lkV ({ x with m := { x.m with next := some 103 } } : X).ws x.m.page = v from hv] at HQ
 have HO1 := jA (o1.keep F)
 rw [hc] at HAFT
 (try simp only [cacheV] at HAFT)
 clear k1 o1 r1 h hl h0 aft
 subst hw1
 go_enter Tryz.func84, Tryz.ntmps84
 go_wp2_with (first | (go_at_call 85; (refine HQ.out.mono ?_); rintro e w2 ⟨rfl, hR2, hK2⟩; obtain ⟨a1, a2, a3, a4, a5, a6, a7, a8⟩ := HAFT.out w2 hR2; have HR3 := jA a7; have HK3 := jA ((HO1.out.trans hK2).trans a8); clear hR2 hK2 a7 a8))
 (try simp only [Exit.inBlock, Exit.then])
 refine bodyPost_ret (results_none rfl _ _ _) rfl ?_
 exact ⟨rfl, by rw [← hm1]; exact HR3.out, HK3.out⟩
theorem version_bare (F : Nat → Prop) (S : Sh) (w : World) (x : X) (now v : Int) (h : Rd F S w x) (hl : x.tr.length < 1000000000000) (h0 : lkE x.ws x.m.page = 0) (hv : lkV x.ws x.m.page = v) (hc : x.m.check = true) (hn : x.m.cache = none) :
  Calls Tryz.prog 84 #[.pointer (some ⟨S.b, 0, none⟩), .int .i64 now] w fun e w' => e = .returned (.tuple #[]) ∧ Rd F S w' { x.acc x.m.page with m := { verM x.m v with next := some 106 } } ∧ Keep (Out F S.b) w w' := by
 have k1 := blk_set h.mach 8 (.func (.func 103) #[.pointer (some ⟨S.b, 0, none⟩)] #[])
 have c8 := cellOf h.mach 8 (nextV S.b x.m.next) rfl
 have g8 := MPut.frozen_of_row h.mach 8
 obtain ⟨w1, hw1⟩ : ∃ q, q = w.setCell ⟨S.b, 8, none⟩ (.func (.func 103) #[.pointer (some ⟨S.b, 0, none⟩)] #[]) := ⟨_, rfl⟩
 have o1 : Only S.b w w1 := by rw [hw1]; exact (Only.refl S.b w).setCell 8 _
 rw [← hw1] at k1
 have r1 : Rd F S w1 { x with m := { x.m with next := some 103 } } := h.put o1 k1 rfl
 have b14 := cellOf k1 14 (.int .i64 x.m.page) rfl
 obtain ⟨m1, hm1⟩ : ∃ m1, m1 = verM x.m v := ⟨_, rfl⟩
 have aft : ∀ w2, Rd F S w2 { x.acc x.m.page with m := { x.m with next := some 103 } } → (w2.cell? ⟨S.b, 13, none⟩ = some (.int .i64 x.m.ver) ∧ w2.frozen? ⟨S.b, 13, none⟩ = false ∧ (w2.setCell ⟨S.b, 13, none⟩ (.int .i64 v)).cell? ⟨S.b, 3, none⟩ = some (.bool x.m.check) ∧ (w2.setCell ⟨S.b, 13, none⟩ (.int .i64 v)).cell? ⟨S.b, 2, none⟩ = some (cacheV x.m.cache) ∧
   (w2.setCell ⟨S.b, 13, none⟩ (.int .i64 v)).cell? ⟨S.b, 8, none⟩ = some (.func (.func 103) #[.pointer (some ⟨S.b, 0, none⟩)] #[]) ∧ (w2.setCell ⟨S.b, 13, none⟩ (.int .i64 v)).frozen? ⟨S.b, 8, none⟩ = false ∧
   Rd F S (w2.setCell ⟨S.b, 13, none⟩ (.int .i64 v)) { x.acc x.m.page with m := m1 } ∧ Keep (Out F S.b) w2 (w2.setCell ⟨S.b, 13, none⟩ (.int .i64 v))) := fun w2 r => by
  have kk := blk_set r.mach 13 (.int .i64 v)
  have oo := (Only.refl S.b w2).setCell 13 (.int .i64 v)
  exact ⟨cellOf r.mach 13 _ rfl, MPut.frozen_of_row r.mach 13, cellOf kk 3 _ rfl, cellOf kk 2 _ rfl, cellOf kk 8 _ rfl, MPut.frozen_of_row kk 8, by rw [hm1]; exact r.put oo kk rfl, oo.keep F⟩
 have HAFT := jA aft
 have HQ := jA (mload_ok F S w1 { x with m := { x.m with next := some 103 } } x.m.page r1 hl h0)
 rw [show lkV ({ x with m := { x.m with next := some 103 } } : X).ws x.m.page = v from hv] at HQ
 have HO1 := jA (o1.keep F)
 rw [hc, hn] at HAFT
 (try simp only [cacheV] at HAFT)
 clear k1 o1 r1 h hl h0 aft
 subst hw1
 go_enter Tryz.func84, Tryz.ntmps84
 go_wp2_with (first | (go_at_call 85; (refine HQ.out.mono ?_); rintro e w2 ⟨rfl, hR2, hK2⟩; obtain ⟨a1, a2, a3, a4, a5, a6, a7, a8⟩ := HAFT.out w2 hR2; have HR3 := jA a7; have HK3 := jA ((HO1.out.trans hK2).trans a8); clear hR2 hK2 a7 a8))
 go_end0
 rw [← hm1]
 exact ⟨rfl, HR3.out.put ((Only.refl S.b _).setCell 8 _) (blk_set HR3.out.mach 8 (.func (.func 106) #[.pointer (some ⟨S.b, 0, none⟩)] #[])) rfl, HK3.out.trans (((Only.refl S.b _).setCell 8 _).keep F)⟩
theorem store_bool {W : World} {v : Bool} {old : Value} {a : Addr} (hc : W.cell? a = some old) (hf : W.frozen? a = false) :
  (Instr.storeAt 4 (.pointer (some a)) (.bool v)).run Tryz.prog W = .ok () (W.setCell a (.bool v)) := by
 have hu := Tryz.underlying4
 simp [Instr.storeAt, Instr.sureAddr, go_sem, hc, hf, hu]
theorem version_cache (F : Nat → Prop) (S : Sh) (w : World) (x : X) (now v : Int) (bc bset : Nat) (C C' : Cst) (al hit : Bool) (h : Rd F S w x) (hl : x.tr.length < 1000000000000) (h0 : lkE x.ws x.m.page = 0) (hv : lkV x.ws x.m.page = v) (hc : x.m.check = true) (hn : x.m.cache = some bc) (hC : Cd F S w bc bset C) (hg : getC C (tagI S.flaw (verM x.m v)) x.m.y0 x.m.y1 x.m.y2 = some (al, hit, C')) :
  Calls Tryz.prog 84 #[.pointer (some ⟨S.b, 0, none⟩), .int .i64 now] w fun e w' => e = .returned (.tuple #[]) ∧ Rd F S w' { x.acc x.m.page with m := gotM (verM x.m v) al hit } ∧ CAt w' bc bset C' ∧ Keep (fun k => Out F S.b k ∧ OffC bc bset C.L k) w w' := by
 have k1 := blk_set h.mach 8 (.func (.func 103) #[.pointer (some ⟨S.b, 0, none⟩)] #[])
 have c8 := cellOf h.mach 8 (nextV S.b x.m.next) rfl
 have g8 := MPut.frozen_of_row h.mach 8
 obtain ⟨w1, hw1⟩ : ∃ q, q = w.setCell ⟨S.b, 8, none⟩ (.func (.func 103) #[.pointer (some ⟨S.b, 0, none⟩)] #[]) := ⟨_, rfl⟩
 have o1 : Only S.b w w1 := by rw [hw1]; exact (Only.refl S.b w).setCell 8 _
 rw [← hw1] at k1
 have r1 : Rd F S w1 { x with m := { x.m with next := some 103 } } := h.put o1 k1 rfl
 have b14 := cellOf k1 14 (.int .i64 x.m.page) rfl
 obtain ⟨m1, hm1⟩ : ∃ m1, m1 = verM x.m v := ⟨_, rfl⟩
 have aft : ∀ w2, Rd F S w2 { x.acc x.m.page with m := { x.m with next := some 103 } } → (w2.cell? ⟨S.b, 13, none⟩ = some (.int .i64 x.m.ver) ∧ w2.frozen? ⟨S.b, 13, none⟩ = false ∧ (w2.setCell ⟨S.b, 13, none⟩ (.int .i64 v)).cell? ⟨S.b, 3, none⟩ = some (.bool x.m.check) ∧ (w2.setCell ⟨S.b, 13, none⟩ (.int .i64 v)).cell? ⟨S.b, 2, none⟩ = some (cacheV x.m.cache) ∧
   (w2.setCell ⟨S.b, 13, none⟩ (.int .i64 v)).cell? ⟨S.b, 8, none⟩ = some (.func (.func 103) #[.pointer (some ⟨S.b, 0, none⟩)] #[]) ∧ (w2.setCell ⟨S.b, 13, none⟩ (.int .i64 v)).frozen? ⟨S.b, 8, none⟩ = false ∧
   Rd F S (w2.setCell ⟨S.b, 13, none⟩ (.int .i64 v)) { x.acc x.m.page with m := m1 } ∧ Keep (Out F S.b) w2 (w2.setCell ⟨S.b, 13, none⟩ (.int .i64 v))) := fun w2 r => by
  have kk := blk_set r.mach 13 (.int .i64 v)
  have oo := (Only.refl S.b w2).setCell 13 (.int .i64 v)
  exact ⟨cellOf r.mach 13 _ rfl, MPut.frozen_of_row r.mach 13, cellOf kk 3 _ rfl, cellOf kk 2 _ rfl, cellOf kk 8 _ rfl, MPut.frozen_of_row kk 8, by rw [hm1]; exact r.put oo kk rfl, oo.keep F⟩
 have HAFT := jA aft
 have HQ := jA (mload_ok F S w1 { x with m := { x.m with next := some 103 } } x.m.page r1 hl h0)
 rw [show lkV ({ x with m := { x.m with next := some 103 } } : X).ws x.m.page = v from hv] at HQ
 have HO1 := jA (o1.keep F)
 rw [hc, hn] at HAFT
 simp only [cacheV] at HAFT
 have HCW := jA hC
 have HOFF := jA (getC_off (bc := bc) (bset := bset) hg)
 have HL := jA hl
 rw [← hm1] at hg
 have HG := jA hg
 have m1c : m1.cache = some bc := by rw [hm1]; exact hn
 have m10 : m1.y0 = x.m.y0 := by rw [hm1]; rfl
 have m11 : m1.y1 = x.m.y1 := by rw [hm1]; rfl
 have m12 : m1.y2 = x.m.y2 := by rw [hm1]; rfl
 clear k1 o1 r1 h hl h0 aft hg hC hc hn
 subst hw1
 go_enter Tryz.func84, Tryz.ntmps84
 go_upto_region 6 with (first | (go_at_call 85; (refine HQ.out.mono ?_); rintro e w2 ⟨rfl, hR2, hK2⟩; obtain ⟨a1, a2, a3, a4, a5, a6, a7, a8⟩ := HAFT.out w2 hR2; have HR3 := jA a7; have HK3 := jA ((HO1.out.trans hK2).trans a8); clear hR2 hK2 a7 a8))
 obtain ⟨w3, hw3⟩ : ∃ q, q = w2.setCell ⟨S.b, 13, none⟩ (.int .i64 v) := ⟨_, rfl⟩
 rw [← hw3] at a3 a4 a5 a6 HR3 HK3 ⊢
 obtain ⟨e2, e4, e5, e6⟩ := mach4 HR3.out.mach m1c m10 m11 m12
 have HTAG := jA (tag_calls w3.drew S.b S.bsite S.bx S.bm S.bs S.cur S.flaw m1 HR3.out.drew.mach HR3.out.drew.site)
 have hcd := Cd.keep HCW.out (HK3.out.trans (((Keep.refl F w3).below (below_drew (Below.refl _ _))).less (G := Out F S.b) (fun k hk => hk.1)))
 have HCD := jA hcd
 have HGET := jA (get_calls w3.drew bc bset C C' (tagI S.flaw m1) x.m.y0 x.m.y1 x.m.y2 al hit hcd.at_ HG.out)
 clear a1 a2 a3 a4 a5 a6 hw3 hcd
 refine start_ (n := 35) (S := fun w' => w'.cell? ⟨S.b, 2, none⟩ = some (.pointer (some ⟨bc, 0, none⟩)) ∧ w'.cell? ⟨S.b, 4, none⟩ = some (.int .i64 x.m.y0) ∧ w'.cell? ⟨S.b, 5, none⟩ = some (.int .i64 x.m.y1) ∧ w'.cell? ⟨S.b, 6, none⟩ = some (.int .i64 x.m.y2)) (ds := [34]) (Jb 35 0) (by kernel_rfl) rfl (by kernel_rfl) ⟨e2, e4, e5, e6⟩ (fun hHeld => ?_)
 refine Jp 0 39 (Jb 35 1) rfl rfl ?_
 refine Jp 1 40 (Jb 35 3) rfl rfl ?_
 refine Jp 2 41 (Jb 35 7) rfl rfl ?_
 refine Jp 3 42 (Jb 35 15) rfl rfl ?_
 refine Jp 4 43 (Jb 35 31) rfl rfl ?_
 refine Jk 5 44 (Jb 35 63) rfl rfl hHeld (.inl ⟨by rfl, by rintro w' ⟨s0, s1, s2, s3⟩; go_simp; with_reducible rfl⟩) ?_
 refine Jp 6 45 (Jb 35 127) rfl rfl ?_
 refine Jp 8 47 (Jb 35 383) rfl rfl ?_
 refine Jp 9 48 (Jb 35 895) rfl rfl ?_
 refine Jp 10 49 (Jb 35 1919) rfl rfl ?_
 refine Jp 11 50 (Jb 35 3967) rfl rfl ?_
 refine Jk 12 51 (Jb 35 8063) rfl rfl hHeld (.inl ⟨by rfl, by rintro w' ⟨s0, s1, s2, s3⟩; go_simp; with_reducible rfl⟩) ?_
 refine Jp 13 52 (Jb 35 16255) rfl rfl ?_
 refine Jp 14 53 (Jb 35 32639) rfl rfl ?_
 refine Jp 15 54 (Jb 35 65407) rfl rfl ?_
 refine Jp 16 55 (Jb 35 130943) rfl rfl ?_
 refine Jk 17 56 (Jb 35 262015) rfl rfl hHeld (.inl ⟨by rfl, by rintro w' ⟨s0, s1, s2, s3⟩; go_simp; with_reducible rfl⟩) ?_
 refine Jp 18 57 (Jb 35 524159) rfl rfl ?_
 refine Jp 19 58 (Jb 35 1048447) rfl rfl ?_
 refine Jp 20 59 (Jb 35 2097023) rfl rfl ?_
 refine Jp 21 60 (Jb 35 4194175) rfl rfl ?_
 refine Jk 22 61 (Jb 35 8388479) rfl rfl hHeld (.inl ⟨by rfl, by rintro w' ⟨s0, s1, s2, s3⟩; go_simp; with_reducible rfl⟩) ?_
 refine one_ (i := 7) (N := some 46) (Jb 35 8388607) rfl rfl (by kernel_rfl) (by decide) (fun K hK => ?_)
 refine goes_ Tryz.func105 (by kernel_rfl) rfl #[.pointer (some ⟨S.b, 0, none⟩)] (by rfl) rfl rfl (by (try simp only [List.map_toArray, List.map_cons, List.map_nil]); first | done | rfl) ?_
 refine HTAG.out.mono ?_
 rintro e w4 ⟨rfl, rfl⟩
 refine ⟨_, rfl, ?_⟩
 refine hK.out _ _ ⟨e2, e4, e5, e6⟩ (fun hHeld => ?_)
 clear hK K
 refine norm_ (a' := ?_) ?_ ?_; rotate_left; (show Act.put _ (some 46) _ = _; simp only [Act.put, Jq, Jr, Js]; rfl)
 refine one_ (i := 23) (N := some 62) (Jb 35 16777215) rfl rfl (by kernel_rfl) (by decide) (fun K hK => ?_)
 refine goes_ Tryz.func104 (by kernel_rfl) rfl #[.pointer (some ⟨bc, 0, none⟩), .int .i64 (tagI S.flaw m1), .int .i64 x.m.y0, .int .i64 x.m.y1, .int .i64 x.m.y2] (by rfl) rfl rfl (by (try simp only [List.map_toArray, List.map_cons, List.map_nil]); first | done | rfl) ?_
 refine HGET.out.mono ?_
 rintro e w5 ⟨rfl, hC5, hK5⟩
 refine ⟨_, rfl, ?_⟩
 have HC5 := jA hC5
 have hR5 := rd_cache HR3.out.drew HCD.out hK5
 have HR5 := jA hR5
 have HK5 := jA hK5
 refine hK.out _ _ (mach4 hR5.mach m1c m10 m11 m12) (fun hHeld => ?_)
 clear hK K hC5 hK5 hR5
 refine norm_ (a' := ?_) ?_ ?_; rotate_left; (show Act.put _ (some 62) _ = _; simp only [Act.put, Jq, Jr, Js]; rfl)
 refine Jp 24 38 (Jb 35 33554431) rfl rfl ?_
 refine Jp 25 63 (Jb 35 67108863) rfl rfl ?_
 refine Jp 26 64 (Jb 35 134217727) rfl rfl ?_
 refine Jp 27 65 (Jb 35 268435455) rfl rfl ?_
 refine Jp 28 66 (Jb 35 536870911) rfl rfl ?_
 refine Jp 29 67 (Jb 35 1073741823) rfl rfl ?_
 refine one_ (i := 30) (N := none) (Jb 35 2147483647) rfl rfl (by kernel_rfl) (by decide) (fun K hK => ?_)
 refine GDiffer.step_skip (w' := w5.setCell ⟨S.b, 10, none⟩ (.bool al)) rfl rfl (by have hst := store_bool (v := al) (cellOf HR5.out.mach 10 (.bool m1.al) rfl) (MPut.frozen_of_row HR5.out.mach 10); simp [execOp, Act.eval, hst]) ?_
 have kk := blk_set HR5.out.mach 10 (.bool al)
 refine hK.out _ _ (mach4 (m := { m1 with al := al }) kk m1c m10 m11 m12) (fun hHeld => ?_)
 clear hK K kk
 refine norm_ (a' := ?_) ?_ ?_; rotate_left; (show Act.put _ (none) _ = _; simp only [Act.put, Jq, Jr, Js]; rfl)
 refine Jp 31 68 (Jb 35 4294967295) rfl rfl ?_
 refine Jp 32 69 (Jb 35 8589934591) rfl rfl ?_
 refine Jp 33 70 (Jb 35 17179869183) rfl rfl ?_
 refine last_ (i := 34) (N := none) (Jb 35 34359738367) rfl rfl (by kernel_rfl) (by decide) (fun K hK => ?_)
 have kk := blk_set HR5.out.mach 10 (.bool al)
 refine GDiffer.step_skip (w' := (w5.setCell ⟨S.b, 10, none⟩ (.bool al)).setCell ⟨S.b, 11, none⟩ (.bool hit)) rfl rfl (by have hst := store_bool (v := hit) (cellOf kk 11 (.bool m1.hit) rfl) (MPut.frozen_of_row kk 11); simp [execOp, Act.eval, hst]) ?_
 refine hK.out _ _ ?_
 clear hK K kk
 refine done_ (by kernel_rfl) ?_
 have k5 := blk_set HR5.out.mach 10 (.bool al)
 have k6 := blk_set k5 11 (.bool hit)
 have o6 : Only S.b w5 ((w5.setCell ⟨S.b, 10, none⟩ (.bool al)).setCell ⟨S.b, 11, none⟩ (.bool hit)) := ((Only.refl S.b w5).setCell 10 _).setCell 11 _
 have hR6 := HR5.out.put (m := { m1 with al := al, hit := hit }) o6 k6 rfl
 have own := HCW.out.own
 have hoff : ¬ ∃ k, k = S.b ∧ ¬ OffC bc bset C.L k := fun ⟨k, h1, h2⟩ => (own k h2).2.1 h1
 have hC6 : CAt ((w5.setCell ⟨S.b, 10, none⟩ (.bool al)).setCell ⟨S.b, 11, none⟩ (.bool hit)) bc bset C' := CacheAt.move HC5.out (fun k _ hn => o6.at_ _ (fun e => hoff ⟨k, e, fun h => hn (HOFF.out k h)⟩))
 have hK6 : Keep (fun k => Out F S.b k ∧ OffC bc bset C.L k) w ((w5.setCell ⟨S.b, 10, none⟩ (.bool al)).setCell ⟨S.b, 11, none⟩ (.bool hit)) := (((HK3.out.trans (((Keep.refl F w3).below (below_drew (Below.refl _ _))).less (G := Out F S.b) (fun k hk => hk.1))).less (fun k hk => hk.1)).trans (HK5.out.less (fun k hk => hk.2))).trans ((o6.keep F).less (fun k hk => hk.1))
 obtain ⟨w6, hw6⟩ : ∃ q, q = (w5.setCell ⟨S.b, 10, none⟩ (.bool al)).setCell ⟨S.b, 11, none⟩ (.bool hit) := ⟨_, rfl⟩
 rw [← hw6] at hR6 hC6 hK6 ⊢
 have f11 := cellOf hR6.mach 11 (.bool hit) rfl
 have f8 := cellOf hR6.mach 8 (nextV S.b m1.next) rfl
 have f8' := MPut.frozen_of_row hR6.mach 8
 have hnx : m1.next = some 103 := by rw [hm1]; rfl
 have HR6 := jA hR6
 have HC6 := jA hC6
 have HK6 := jA hK6
 clear k5 k6 o6 hR6 hC6 hK6 hw6 own hoff e2 e4 e5 e6
 cases hit with
 | true =>
  go_wp2
  (try simp only [Exit.inBlock, Exit.then])
  refine bodyPost_ret (results_none rfl _ _ _) rfl ?_
  exact ⟨rfl, by rw [← hm1]; exact HR6.out, HC6.out, HK6.out⟩
 | false =>
  go_wp2
  go_end0
  have o7 := (Only.refl S.b w6).setCell 8 (.func (.func 106) #[.pointer (some ⟨S.b, 0, none⟩)] #[])
  refine ⟨rfl, ?_, CacheAt.move HC6.out (fun k _ hn => o7.at_ _ (fun e => (HCW.out.own k (fun h => hn (HOFF.out k h))).2.1 e)), HK6.out.trans ((o7.keep F).less (fun k hk => hk.1))⟩
  rw [← hm1]
  exact HR6.out.put o7 (blk_set HR6.out.mach 8 (.func (.func 106) #[.pointer (some ⟨S.b, 0, none⟩)] #[])) rfl
end Go.Proofs.YtdgkppldopiaoaaGreat.RVer
/- reader.Machine's known, walked. -/
namespace Go.Proofs.YtdgkppldopiaoaaGreat.RKnown
open Go.RowKit YtdgkppldopiaoaaGreatW.PrintWords YtdgkppldopiaoaaGreatW.PrintLast YtdgkppldopiaoaaGreatW.PrintMore BMap BRow GDiffer MLines MPol MPut RMem RCells REpoch RMach RSteps RSeek RLook RNum RCache RBegin RCat RCget RCput RVer Go.Maps
open PG
set_option maxHeartbeats 1000000
set_option maxRecDepth 100000
def blks (C : Cst) : List Nat := C.L.map (·.blk)
theorem offC_of {bc bset k : Nat} {C C' : Cst} (hb : blks C' = blks C) (h : OffC bc bset C.L k) : OffC bc bset C'.L k :=
 ⟨h.1, h.2.1, fun s hs e => by
  have h1 : s.blk ∈ blks C' := List.mem_map.2 ⟨s, hs, rfl⟩
  rw [hb] at h1
  obtain ⟨s', hs', e'⟩ := List.mem_map.1 h1
  exact h.2.2 s' hs' (by rw [e, e'])⟩
theorem blks_putPl {C : Cst} {i j : Nat} {c : Cset} {p : Pl} (hc : C.L[i]? = some c) (st : Stats) : blks ⟨C.putPl i j c p, st⟩ = blks C := by
 have hi : i < C.L.length := (List.getElem?_eq_some_iff.1 hc).1
 simp only [blks, Cst.putPl]
 rw [List.map_set]
 apply List.ext_getElem?
 intro n
 rw [List.getElem?_set]
 split
 ·rename_i e; subst e; simp [hi, (List.getElem?_eq_some_iff.1 hc).2]
 ·rfl
theorem getC_blks {C C' : Cst} {tag s o a : Int} {al hit : Bool} (hg : getC C tag s o a = some (al, hit, C')) : blks C' = blks C := by
 unfold getC at hg
 split at hg
 ·cases hg
 ·rename_i c hc
  split at hg
  ·cases hg; rfl
  ·split at hg
   ·cases hg
   ·split at hg
    ·cases hg; exact blks_putPl hc _
    ·cases hg; exact blks_putPl hc _
theorem putC_blks {C C' : Cst} {tag s o a : Int} {al : Bool} (hg : putC C tag s o a al = some C') : blks C' = blks C := by
 unfold putC at hg
 split at hg
 ·cases hg
 ·rename_i c hc
  split at hg
  ·cases hg
  ·split at hg
   ·cases hg; exact blks_putPl hc _
   ·cases hg
structure Ry (F : Nat → Prop) (S : Sh) (w : World) (x : X) (bset : Nat) (C : Cst) : Prop where
 rd : Rd F S w x
 cd : ∀ bc, x.m.cache = some bc → Cd F S w bc bset C
def KF (F : Nat → Prop) (S : Sh) (co : Option Nat) (bset : Nat) (C : Cst) : Nat → Prop := fun k => F k ∧ k ≠ S.b ∧ k ≠ S.bx ∧ ∀ bc, co = some bc → OffC bc bset C.L k
theorem KF_out {F : Nat → Prop} {S : Sh} {co : Option Nat} {bset : Nat} {C : Cst} (k : Nat) (h : KF F S co bset C k) : Out F S.b k := ⟨h.1, h.2.1⟩
theorem KF_of {F : Nat → Prop} {S : Sh} {co : Option Nat} {bset : Nat} {C C' : Cst} (hb : blks C' = blks C) (k : Nat) (h : KF F S co bset C k) : KF F S co bset C' k := ⟨h.1, h.2.1, h.2.2.1, fun bc e => offC_of hb (h.2.2.2 bc e)⟩
theorem Cd.of {F : Nat → Prop} {S : Sh} {w w1 : World} {bc bset : Nat} {C C' : Cst} (h : Cd F S w bc bset C) (hb : blks C' = blks C) (ha : CAt w1 bc bset C') : Cd F S w1 bc bset C' := ⟨ha, fun k hk => h.own k (fun e => hk (offC_of hb e))⟩
theorem Ry.step {F : Nat → Prop} {S : Sh} {w w1 : World} {x x1 : X} {bset : Nat} {C : Cst} (h : Ry F S w x bset C) (hr : Rd F S w1 x1) (hk : Keep (Out F S.b) w w1) (hc : x1.m.cache = x.m.cache) : Ry F S w1 x1 bset C :=
 ⟨hr, fun bc e => Cd.keep (h.cd bc (hc.symm.trans e)) hk⟩
def knownM (m : Mst) (al : Bool) : Mst := { m with al := al, next := some 103 }
def knownC (flaw : Int) (m : Mst) (al : Bool) (C : Cst) : Option Cst := if m.cache = none then some C else putC C (tagI flaw m) m.y0 m.y1 m.y2 al
theorem knownC_blks {flaw : Int} {m : Mst} {al : Bool} {C C' : Cst} (h : knownC flaw m al C = some C') : blks C' = blks C := by
 unfold knownC at h
 split at h
 ·cases h; rfl
 ·exact putC_blks h
theorem known_calls (F : Nat → Prop) (S : Sh) (w : World) (x : X) (al : Bool) (bset : Nat) (C C' : Cst) (h : Ry F S w x bset C) (hg : knownC S.flaw x.m al C = some C') :
  Calls Tryz.prog 134 #[.pointer (some ⟨S.b, 0, none⟩), .bool al] w fun e w' => e = .returned (.tuple #[]) ∧ Ry F S w' { x with m := knownM x.m al } bset C' ∧ Keep (KF F S x.m.cache bset C) w w' := by
 have hr := h.rd
 have c10 := cellOf hr.mach 10 (.bool x.m.al) rfl
 have g10 := MPut.frozen_of_row hr.mach 10
 have k1 := blk_set hr.mach 10 (.bool al)
 have c8 := cellOf k1 8 (nextV S.b x.m.next) rfl
 have g8 := MPut.frozen_of_row k1 8
 have k2 := blk_set k1 8 (.func (.func 103) #[.pointer (some ⟨S.b, 0, none⟩)] #[])
 have o2 : Only S.b w ((w.setCell ⟨S.b, 10, none⟩ (.bool al)).setCell ⟨S.b, 8, none⟩ (.func (.func 103) #[.pointer (some ⟨S.b, 0, none⟩)] #[])) := ((Only.refl S.b w).setCell 10 _).setCell 8 _
 have r2 : Rd F S ((w.setCell ⟨S.b, 10, none⟩ (.bool al)).setCell ⟨S.b, 8, none⟩ (.func (.func 103) #[.pointer (some ⟨S.b, 0, none⟩)] #[])) { x with m := knownM x.m al } := hr.put o2 k2 rfl
 have c2 := cellOf r2.mach 2 (cacheV x.m.cache) rfl
 have HR2 := jA r2
 have HO2 := jA o2
 have H := jA h
 cases hco : x.m.cache with
 | none =>
  rw [hco] at c2
  have c2' : ((w.setCell ⟨S.b, 10, none⟩ (.bool al)).setCell ⟨S.b, 8, none⟩ (.func (.func 103) #[.pointer (some ⟨S.b, 0, none⟩)] #[])).cell? ⟨S.b, 2, none⟩ = some (.pointer none) := c2
  have e : C' = C := by rw [knownC, if_pos hco] at hg; exact (Option.some.inj hg).symm
  subst e
  have HCO := jA hco
  clear c2 h hr k1 k2 o2 r2 hg hco
  go_enter Tryz.func134, Tryz.ntmps134
  go_wp2
  go_end0
  exact ⟨rfl, H.out.step HR2.out (HO2.out.keep F) rfl, (HO2.out.keep F).less KF_out⟩
 | some bc =>
  rw [hco] at c2
  have hg' : putC C (tagI S.flaw (knownM x.m al)) x.m.y0 x.m.y1 x.m.y2 al = some C' := by rw [knownC, if_neg (by rw [hco]; simp)] at hg; exact hg
  have hco' : (knownM x.m al).cache = some bc := hco
  have hcd := Cd.keep (h.cd bc hco) (o2.keep F)
  have HG := jA hg'
  have HCD := jA hcd
  obtain ⟨w3, hw3⟩ : ∃ q, q = ((w.setCell ⟨S.b, 10, none⟩ (.bool al)).setCell ⟨S.b, 8, none⟩ (.func (.func 103) #[.pointer (some ⟨S.b, 0, none⟩)] #[])) := ⟨_, rfl⟩
  rw [← hw3] at c2 HR2 HO2 HCD
  have HW3 := jA hw3
  have c2' : ((w.setCell ⟨S.b, 10, none⟩ (.bool al)).setCell ⟨S.b, 8, none⟩ (.func (.func 103) #[.pointer (some ⟨S.b, 0, none⟩)] #[])).cell? ⟨S.b, 2, none⟩ = some (.pointer (some ⟨bc, 0, none⟩)) := by rw [← hw3]; exact c2
  have HTAG := jA (tag_calls w3.drew S.b S.bsite S.bx S.bm S.bs S.cur S.flaw (knownM x.m al) HR2.out.drew.mach HR2.out.drew.site)
  have hcd3 := Cd.keep HCD.out (((Keep.refl F w3).below (below_drew (Below.refl _ _))).less (G := Out F S.b) (fun k hk => hk.1))
  have HCD3 := jA hcd3
  have HPUT := jA (put_calls w3.drew bc bset C C' (tagI S.flaw (knownM x.m al)) x.m.y0 x.m.y1 x.m.y2 al hcd3.at_ HG.out)
  have HOFF := jA (putC_off (bc := bc) (bset := bset) hg')
  have HBL := jA (putC_blks hg')
  clear c2 h hr k1 k2 o2 r2 hg hg' hcd hcd3 hw3 hco
  go_enter Tryz.func134, Tryz.ntmps134
  go_upto_region 3 with fail
  rw [← HW3.out]
  obtain ⟨e2, e4, e5, e6⟩ := mach4 HR2.out.mach hco' rfl rfl rfl
  clear c2' c10 g10 c8 g8
  refine start_ (n := 23) (S := fun w' => w'.cell? ⟨S.b, 2, none⟩ = some (.pointer (some ⟨bc, 0, none⟩)) ∧ w'.cell? ⟨S.b, 4, none⟩ = some (.int .i64 x.m.y0) ∧ w'.cell? ⟨S.b, 5, none⟩ = some (.int .i64 x.m.y1) ∧ w'.cell? ⟨S.b, 6, none⟩ = some (.int .i64 x.m.y2)) (ds := []) (Jb 23 0) (by kernel_rfl) rfl (by kernel_rfl) ⟨e2, e4, e5, e6⟩ (fun hHeld => ?_)
  refine Jp 0 19 (Jb 23 1) rfl rfl ?_
  refine Jp 1 20 (Jb 23 3) rfl rfl ?_
  refine Jp 2 21 (Jb 23 7) rfl rfl ?_
  refine Jk 3 22 (Jb 23 15) rfl rfl hHeld (.inl ⟨by rfl, by rintro w' ⟨s0, s1, s2, s3⟩; go_simp; with_reducible rfl⟩) ?_
  refine Jp 4 23 (Jb 23 31) rfl rfl ?_
  refine Jp 6 25 (Jb 23 95) rfl rfl ?_
  refine Jp 7 26 (Jb 23 223) rfl rfl ?_
  refine Jp 8 27 (Jb 23 479) rfl rfl ?_
  refine Jp 9 28 (Jb 23 991) rfl rfl ?_
  refine Jk 10 29 (Jb 23 2015) rfl rfl hHeld (.inl ⟨by rfl, by rintro w' ⟨s0, s1, s2, s3⟩; go_simp; with_reducible rfl⟩) ?_
  refine Jp 11 30 (Jb 23 4063) rfl rfl ?_
  refine Jp 12 31 (Jb 23 8159) rfl rfl ?_
  refine Jp 13 32 (Jb 23 16351) rfl rfl ?_
  refine Jp 14 33 (Jb 23 32735) rfl rfl ?_
  refine Jk 15 34 (Jb 23 65503) rfl rfl hHeld (.inl ⟨by rfl, by rintro w' ⟨s0, s1, s2, s3⟩; go_simp; with_reducible rfl⟩) ?_
  refine Jp 16 35 (Jb 23 131039) rfl rfl ?_
  refine Jp 17 36 (Jb 23 262111) rfl rfl ?_
  refine Jp 18 37 (Jb 23 524255) rfl rfl ?_
  refine Jp 19 38 (Jb 23 1048543) rfl rfl ?_
  refine Jk 20 39 (Jb 23 2097119) rfl rfl hHeld (.inl ⟨by rfl, by rintro w' ⟨s0, s1, s2, s3⟩; go_simp; with_reducible rfl⟩) ?_
  refine Jp 21 40 (Jb 23 4194271) rfl rfl ?_
  refine one_ (i := 5) (N := some 24) (Jb 23 4194303) rfl rfl (by kernel_rfl) (by decide) (fun K hK => ?_)
  refine goes_ Tryz.func105 (by kernel_rfl) rfl #[.pointer (some ⟨S.b, 0, none⟩)] (by rfl) rfl rfl (by (try simp only [List.map_toArray, List.map_cons, List.map_nil]); first | done | rfl) ?_
  refine HTAG.out.mono ?_
  rintro e w4 ⟨rfl, rfl⟩
  refine ⟨_, rfl, ?_⟩
  refine hK.out _ _ ⟨e2, e4, e5, e6⟩ (fun hHeld => ?_)
  clear hK K
  refine norm_ (a' := ?_) ?_ ?_; rotate_left; (show Act.put _ (some 24) _ = _; simp only [Act.put, Jq, Jr, Js]; rfl)
  refine one_ (i := 22) (N := some 41) (Jb 23 8388607) rfl rfl (by kernel_rfl) (by decide) (fun K hK => ?_)
  refine goes_ Tryz.func140 (by kernel_rfl) rfl #[.pointer (some ⟨bc, 0, none⟩), .int .i64 (tagI S.flaw (knownM x.m al)), .int .i64 x.m.y0, .int .i64 x.m.y1, .int .i64 x.m.y2, .bool al] (by rfl) rfl rfl (by (try simp only [List.map_toArray, List.map_cons, List.map_nil]); first | done | rfl) ?_
  refine HPUT.out.mono ?_
  rintro e w5 ⟨rfl, hC5, hK5⟩
  refine ⟨_, rfl, ?_⟩
  have HC5 := jA hC5
  have hR5 := rd_cache HR2.out.drew HCD3.out hK5
  have HK5 := jA hK5
  refine hK.out _ _ (mach4 hR5.mach hco' rfl rfl rfl) (fun hHeld => ?_)
  clear hK K hC5 hK5 hR5
  refine norm_ (a' := ?_) ?_ ?_; rotate_left; (show Act.put _ (some 41) _ = _; simp only [Act.put, Jq, Jr, Js]; rfl)
  refine done_ (by kernel_rfl) ?_
  go_wp2
  go_end0
  refine ⟨rfl, ⟨rd_cache HR2.out.drew HCD3.out HK5.out, fun bc' e => ?c1⟩, (((HO2.out.keep F).less KF_out).trans ((Keep.refl _ w3).below (below_drew (Below.refl _ _)))).trans (HK5.out.less (fun k hk => hk.2.2.2 bc rfl))⟩
  case c1 =>
   obtain rfl : bc' = bc := Option.some.inj (e.symm.trans hco')
   exact Cd.of HCD3.out HBL.out HC5.out
end Go.Proofs.YtdgkppldopiaoaaGreat.RKnown
/- reader.Machine's look, walked. -/
namespace Go.Proofs.YtdgkppldopiaoaaGreat.RLk
open Go.RowKit YtdgkppldopiaoaaGreatW.PrintWords YtdgkppldopiaoaaGreatW.PrintLast YtdgkppldopiaoaaGreatW.PrintMore BMap BRow GDiffer MLines MPol MPut RMem RCells REpoch RMach RSteps RSeek RLook RNum RCache RBegin RCat RCget RCput RVer RKnown Go.Maps
open PG
set_option maxHeartbeats 1000000
set_option maxRecDepth 100000
def nextM (m : Mst) : Mst := { m with seen := wrap64 (m.seen + 1), place := Int.tmod (wrap64 (m.place + 1)) m.size }
def lookS (flaw : Int) (x : X) (C : Cst) : Option (X × Cst) :=
 if lkE x.ws (slotA 4 x.m) = 0 then
  if lkV x.ws (slotA 4 x.m) = keyM x.m then some ({ x.acc (slotA 4 x.m) with m := { x.m with next := some 133 } }, C)
  else if lkV x.ws (slotA 4 x.m) = 0 ∨ (nextM x.m).seen = x.m.size then (knownC flaw (nextM x.m) false C).map fun C' => ({ x.acc (slotA 4 x.m) with m := knownM (nextM x.m) false }, C')
  else some ({ x.acc (slotA 4 x.m) with m := nextM x.m }, C)
 else some ({ x.acc (slotA 4 x.m) with m := brk x.m }, C)
theorem look_bad (F : Nat → Prop) (S : Sh) (w : World) (x : X) (now : Int) (bset : Nat) (C : Cst) (hy : Ry F S w x bset C) (hl : x.tr.length < 1000000000000) (h0 : lkE x.ws (slotA 4 x.m) ≠ 0) :
  Calls Tryz.prog 127 #[.pointer (some ⟨S.b, 0, none⟩), .int .i64 now] w fun e w' => e = .returned (.tuple #[]) ∧ Ry F S w' { x.acc (slotA 4 x.m) with m := brk x.m } bset C ∧ Keep (KF F S x.m.cache bset C) w w' := by
 have h := hy.rd
 have b14 := cellOf h.mach 14 (.int .i64 x.m.page) rfl
 have b17 := cellOf h.mach 17 (.int .i64 x.m.place) rfl
 have hA : slotA 4 x.m = IntKind.i64.wrap (IntKind.i64.wrap (x.m.page + 4) + IntKind.i64.wrap (2 * x.m.place)) := by simp only [slotA, i64_w]
 have HK0 := jA (((Keep.refl F w).below (below_drew (Below.refl _ _))).less (G := Out F S.b) (fun k hk => hk.1))
 have HY := jA hy
 have HQ := jA (mload_bad F S w.drew x (slotA 4 x.m) h.drew hl h0)
 rw [hA] at HQ
 rw [hA]
 clear h hl h0 hA hy
 go_enter Tryz.func127, Tryz.ntmps127
 go_upto_region 0 with fail
 refine start_ (n := 19) (S := fun w' => w'.cell? ⟨S.b, 14, none⟩ = some (.int .i64 x.m.page) ∧ w'.cell? ⟨S.b, 17, none⟩ = some (.int .i64 x.m.place)) (ds := []) (Jb 19 0) (by kernel_rfl) rfl (by kernel_rfl) ⟨b14, b17⟩ (fun hHeld => ?_)
 refine Jp 0 7 (Jb 19 1) rfl rfl ?_
 refine Jp 1 8 (Jb 19 3) rfl rfl ?_
 refine Jp 2 9 (Jb 19 7) rfl rfl ?_
 refine Jp 3 10 (Jb 19 15) rfl rfl ?_
 refine Jp 4 11 (Jb 19 31) rfl rfl ?_
 refine Jk 5 12 (Jb 19 63) rfl rfl hHeld (.inl ⟨by rfl, by rintro w' ⟨s0, s1⟩; go_simp; with_reducible rfl⟩) ?_
 refine Jp 6 13 (Jb 19 127) rfl rfl ?_
 refine Jp 7 14 (Jb 19 255) rfl rfl ?_
 refine Jp 8 15 (Jb 19 511) rfl rfl ?_
 refine Jp 9 16 (Jb 19 1023) rfl rfl ?_
 refine Jk 10 17 (Jb 19 2047) rfl rfl hHeld (.inl ⟨by rfl, by rintro w' ⟨s0, s1⟩; go_simp; with_reducible rfl⟩) ?_
 refine Jp 11 18 (Jb 19 4095) rfl rfl ?_
 refine Jp 12 19 (Jb 19 8191) rfl rfl ?_
 refine one_ (i := 13) (N := some 20) (Jb 19 16383) rfl rfl (by kernel_rfl) (by decide) (fun K hK => ?_)
 refine goes_ Tryz.func85 (by kernel_rfl) rfl #[.pointer (some ⟨S.b, 0, none⟩), .int .i64 (IntKind.i64.wrap (IntKind.i64.wrap (x.m.page + 4) + IntKind.i64.wrap (2 * x.m.place)))] (by rfl) rfl rfl (by (try simp only [List.map_toArray, List.map_cons, List.map_nil]); first | done | rfl) ?_
 refine HQ.out.mono ?_
 rintro e w1 ⟨rfl, hR1, hK1⟩
 refine ⟨_, rfl, ?_⟩
 have HR1 := jA hR1
 have HK1 := jA (HK0.out.trans hK1)
 refine hK.out _ _ ⟨cellOf hR1.mach 14 (.int .i64 x.m.page) rfl |>.trans rfl, cellOf hR1.mach 17 (.int .i64 x.m.place) rfl |>.trans rfl⟩ (fun hHeld => ?_)
 clear hK K hR1 hK1
 refine norm_ (a' := ?_) ?_ ?_; rotate_left; (show Act.put _ (some 20) _ = _; simp only [Act.put, Jq, Jr, Js]; rfl)
 refine Jp 14 6 (Jb 19 32767) rfl rfl ?_
 refine Jp 15 21 (Jb 19 65535) rfl rfl ?_
 refine Jp 16 22 (Jb 19 131071) rfl rfl ?_
 refine Jp 17 4 (Jb 19 262143) rfl rfl ?_
 refine Jp 18 5 (Jb 19 524287) rfl rfl ?_
 refine done_ (by kernel_rfl) ?_
 go_wp2
 (try simp only [Exit.inBlock, Exit.then])
 refine bodyPost_ret (results_none rfl _ _ _) rfl ?_
 exact ⟨rfl, HY.out.step HR1.out HK1.out rfl, HK1.out.less KF_out⟩
theorem still_keep {F : Nat → Prop} {w w1 : World} (h : Still w w1) : Keep F w w1 := ⟨by rw [h.heap]; exact Nat.le_refl _, fun _ _ _ => by rw [h.heap], h.ext⟩
theorem look_found (F : Nat → Prop) (S : Sh) (w : World) (x : X) (now : Int) (bset : Nat) (C : Cst) (hy : Ry F S w x bset C) (hl : x.tr.length < 1000000000000) (h0 : lkE x.ws (slotA 4 x.m) = 0) (v : Int) (hv : lkV x.ws (slotA 4 x.m) = v) (hk : x.m.kind = 0 ∨ x.m.kind = 1 ∨ x.m.kind = 2) (hkv : v = keyM x.m) :
  Calls Tryz.prog 127 #[.pointer (some ⟨S.b, 0, none⟩), .int .i64 now] w fun e w' => e = .returned (.tuple #[]) ∧ Ry F S w' { x.acc (slotA 4 x.m) with m := { x.m with next := some 133 } } bset C ∧ Keep (KF F S x.m.cache bset C) w w' := by
 have h := hy.rd
 have b14 := cellOf h.mach 14 (.int .i64 x.m.page) rfl
 have b17 := cellOf h.mach 17 (.int .i64 x.m.place) rfl
 have hA : slotA 4 x.m = IntKind.i64.wrap (IntKind.i64.wrap (x.m.page + 4) + IntKind.i64.wrap (2 * x.m.place)) := by simp only [slotA, i64_w]
 have HK0 := jA (((Keep.refl F w).below (below_drew (Below.refl _ _))).less (G := Out F S.b) (fun k hk => hk.1))
 have HY := jA hy
 have HQ := jA (mload_ok F S w.drew x (slotA 4 x.m) h.drew hl h0)
 rw [hv] at HQ
 obtain ⟨y, hyy⟩ : ∃ y, y = x.acc (slotA 4 x.m) := ⟨_, rfl⟩
 have hym : y.m = x.m := by rw [hyy]; rfl
 rw [← hyy]
 rw [← hyy, hA] at HQ
 have HKD := jA (show y.m.kind = 0 ∨ y.m.kind = 1 ∨ y.m.kind = 2 by rw [hym]; exact hk)
 have HKE := jA (show v = keyM y.m by rw [hym]; exact hkv)
 have HYY := jA hyy
 clear h hl h0 hA hy hk hkv hv hyy
 go_enter Tryz.func127, Tryz.ntmps127
 go_upto_region 0 with fail
 refine start_ (n := 19) (S := fun w' => w'.cell? ⟨S.b, 14, none⟩ = some (.int .i64 x.m.page) ∧ w'.cell? ⟨S.b, 17, none⟩ = some (.int .i64 x.m.place)) (ds := []) (Jb 19 0) (by kernel_rfl) rfl (by kernel_rfl) ⟨b14, b17⟩ (fun hHeld => ?_)
 refine Jp 0 7 (Jb 19 1) rfl rfl ?_
 refine Jp 1 8 (Jb 19 3) rfl rfl ?_
 refine Jp 2 9 (Jb 19 7) rfl rfl ?_
 refine Jp 3 10 (Jb 19 15) rfl rfl ?_
 refine Jp 4 11 (Jb 19 31) rfl rfl ?_
 refine Jk 5 12 (Jb 19 63) rfl rfl hHeld (.inl ⟨by rfl, by rintro w' ⟨s0, s1⟩; go_simp; with_reducible rfl⟩) ?_
 refine Jp 6 13 (Jb 19 127) rfl rfl ?_
 refine Jp 7 14 (Jb 19 255) rfl rfl ?_
 refine Jp 8 15 (Jb 19 511) rfl rfl ?_
 refine Jp 9 16 (Jb 19 1023) rfl rfl ?_
 refine Jk 10 17 (Jb 19 2047) rfl rfl hHeld (.inl ⟨by rfl, by rintro w' ⟨s0, s1⟩; go_simp; with_reducible rfl⟩) ?_
 refine Jp 11 18 (Jb 19 4095) rfl rfl ?_
 refine Jp 12 19 (Jb 19 8191) rfl rfl ?_
 refine one_ (i := 13) (N := some 20) (Jb 19 16383) rfl rfl (by kernel_rfl) (by decide) (fun K hK => ?_)
 refine goes_ Tryz.func85 (by kernel_rfl) rfl #[.pointer (some ⟨S.b, 0, none⟩), .int .i64 (IntKind.i64.wrap (IntKind.i64.wrap (x.m.page + 4) + IntKind.i64.wrap (2 * x.m.place)))] (by rfl) rfl rfl (by (try simp only [List.map_toArray, List.map_cons, List.map_nil]); first | done | rfl) ?_
 refine HQ.out.mono ?_
 rintro e w1 ⟨rfl, hR1, hK1⟩
 refine ⟨_, rfl, ?_⟩
 have HR1 := jA hR1
 have HK1 := jA (HK0.out.trans hK1)
 refine hK.out _ _ ⟨cellOf hR1.mach 14 (.int .i64 y.m.page) rfl |>.trans (by rw [hym]), cellOf hR1.mach 17 (.int .i64 y.m.place) rfl |>.trans (by rw [hym])⟩ (fun hHeld => ?_)
 clear hK K hR1 hK1
 refine norm_ (a' := ?_) ?_ ?_; rotate_left; (show Act.put _ (some 20) _ = _; simp only [Act.put, Jq, Jr, Js]; rfl)
 refine Jp 14 6 (Jb 19 32767) rfl rfl ?_
 refine Jp 15 21 (Jb 19 65535) rfl rfl ?_
 refine Jp 16 22 (Jb 19 131071) rfl rfl ?_
 refine Jp 17 4 (Jb 19 262143) rfl rfl ?_
 refine Jp 18 5 (Jb 19 524287) rfl rfl ?_
 refine done_ (by kernel_rfl) ?_
 go_wp2_with (first | (go_at_call 126; (refine (key_calls _ S.b S.bsite S.bx y.m HR1.out.mach HKD.out).mono ?_); rintro e w2 ⟨rfl, hh2⟩; rw [← HKE.out]; have hR2 := rd_still HR1.out hh2; have HR2 := jA hR2; have HK2 := jA (HK1.out.trans (still_keep hh2)); have c8 := cellOf hR2.mach 8 (nextV S.b y.m.next) rfl; have g8 := MPut.frozen_of_row hR2.mach 8; have c18 := cellOf hR2.mach 18 (.int .i64 y.m.seen) rfl; have g18 := MPut.frozen_of_row hR2.mach 18; clear hh2 hR2))
 (try simp only [Exit.inBlock, Exit.then])
 refine bodyPost_ret (results_none rfl _ _ _) rfl ?_
 have o3 := (Only.refl S.b w2).setCell 8 (.func (.func 133) #[.pointer (some ⟨S.b, 0, none⟩)] #[])
 have r3 := HR2.out.put (m := { y.m with next := some 133 }) o3 (blk_set HR2.out.mach 8 _) rfl
 have hk3 := HK2.out.trans (o3.keep F)
 rw [hym] at r3
 exact ⟨rfl, HY.out.step r3 hk3 rfl, hk3.less KF_out⟩
theorem look_zero (F : Nat → Prop) (S : Sh) (w : World) (x : X) (now : Int) (bset : Nat) (C : Cst) (hy : Ry F S w x bset C) (hl : x.tr.length < 1000000000000) (h0 : lkE x.ws (slotA 4 x.m) = 0) (v : Int) (hv : lkV x.ws (slotA 4 x.m) = v) (hk : x.m.kind = 0 ∨ x.m.kind = 1 ∨ x.m.kind = 2) (hkv : v ≠ keyM x.m) (hz : 2 ≤ x.m.size) (C' : Cst) (hg : knownC S.flaw (nextM x.m) false C = some C') (hv0 : v = 0) :
  Calls Tryz.prog 127 #[.pointer (some ⟨S.b, 0, none⟩), .int .i64 now] w fun e w' => e = .returned (.tuple #[]) ∧ Ry F S w' { x.acc (slotA 4 x.m) with m := knownM (nextM x.m) false } bset C' ∧ Keep (KF F S x.m.cache bset C) w w' := by
 have h := hy.rd
 have b14 := cellOf h.mach 14 (.int .i64 x.m.page) rfl
 have b17 := cellOf h.mach 17 (.int .i64 x.m.place) rfl
 have hA : slotA 4 x.m = IntKind.i64.wrap (IntKind.i64.wrap (x.m.page + 4) + IntKind.i64.wrap (2 * x.m.place)) := by simp only [slotA, i64_w]
 have HK0 := jA (((Keep.refl F w).below (below_drew (Below.refl _ _))).less (G := Out F S.b) (fun k hk => hk.1))
 have HY := jA hy
 have HQ := jA (mload_ok F S w.drew x (slotA 4 x.m) h.drew hl h0)
 rw [hv] at HQ
 obtain ⟨y, hyy⟩ : ∃ y, y = x.acc (slotA 4 x.m) := ⟨_, rfl⟩
 have hym : y.m = x.m := by rw [hyy]; rfl
 rw [← hyy]
 rw [← hyy, hA] at HQ
 have HKD := jA (show y.m.kind = 0 ∨ y.m.kind = 1 ∨ y.m.kind = 2 by rw [hym]; exact hk)
 obtain ⟨kk, hkk⟩ : ∃ kk, kk = keyM y.m := ⟨_, rfl⟩
 have HKE := jA hkk
 have hne : (v == kk) = false := by rw [beq_eq_false_iff_ne, hkk, hym]; exact hkv
 have hz0 : y.m.size ≠ 0 := by rw [hym]; omega
 have HG := jA hg
 clear hg
 have HYY := jA hyy
 have HYM := jA hym
 clear h hl h0 hA hy hk hkv hv hyy hkk hz hym
 go_enter Tryz.func127, Tryz.ntmps127
 go_upto_region 0 with fail
 refine start_ (n := 19) (S := fun w' => w'.cell? ⟨S.b, 14, none⟩ = some (.int .i64 x.m.page) ∧ w'.cell? ⟨S.b, 17, none⟩ = some (.int .i64 x.m.place)) (ds := []) (Jb 19 0) (by kernel_rfl) rfl (by kernel_rfl) ⟨b14, b17⟩ (fun hHeld => ?_)
 refine Jp 0 7 (Jb 19 1) rfl rfl ?_
 refine Jp 1 8 (Jb 19 3) rfl rfl ?_
 refine Jp 2 9 (Jb 19 7) rfl rfl ?_
 refine Jp 3 10 (Jb 19 15) rfl rfl ?_
 refine Jp 4 11 (Jb 19 31) rfl rfl ?_
 refine Jk 5 12 (Jb 19 63) rfl rfl hHeld (.inl ⟨by rfl, by rintro w' ⟨s0, s1⟩; go_simp; with_reducible rfl⟩) ?_
 refine Jp 6 13 (Jb 19 127) rfl rfl ?_
 refine Jp 7 14 (Jb 19 255) rfl rfl ?_
 refine Jp 8 15 (Jb 19 511) rfl rfl ?_
 refine Jp 9 16 (Jb 19 1023) rfl rfl ?_
 refine Jk 10 17 (Jb 19 2047) rfl rfl hHeld (.inl ⟨by rfl, by rintro w' ⟨s0, s1⟩; go_simp; with_reducible rfl⟩) ?_
 refine Jp 11 18 (Jb 19 4095) rfl rfl ?_
 refine Jp 12 19 (Jb 19 8191) rfl rfl ?_
 refine one_ (i := 13) (N := some 20) (Jb 19 16383) rfl rfl (by kernel_rfl) (by decide) (fun K hK => ?_)
 refine goes_ Tryz.func85 (by kernel_rfl) rfl #[.pointer (some ⟨S.b, 0, none⟩), .int .i64 (IntKind.i64.wrap (IntKind.i64.wrap (x.m.page + 4) + IntKind.i64.wrap (2 * x.m.place)))] (by rfl) rfl rfl (by (try simp only [List.map_toArray, List.map_cons, List.map_nil]); first | done | rfl) ?_
 refine HQ.out.mono ?_
 rintro e w1 ⟨rfl, hR1, hK1⟩
 refine ⟨_, rfl, ?_⟩
 have HR1 := jA hR1
 have HK1 := jA (HK0.out.trans hK1)
 refine hK.out _ _ ⟨cellOf hR1.mach 14 (.int .i64 y.m.page) rfl |>.trans (by rw [HYM.out]), cellOf hR1.mach 17 (.int .i64 y.m.place) rfl |>.trans (by rw [HYM.out])⟩ (fun hHeld => ?_)
 clear hK K hR1 hK1
 refine norm_ (a' := ?_) ?_ ?_; rotate_left; (show Act.put _ (some 20) _ = _; simp only [Act.put, Jq, Jr, Js]; rfl)
 refine Jp 14 6 (Jb 19 32767) rfl rfl ?_
 refine Jp 15 21 (Jb 19 65535) rfl rfl ?_
 refine Jp 16 22 (Jb 19 131071) rfl rfl ?_
 refine Jp 17 4 (Jb 19 262143) rfl rfl ?_
 refine Jp 18 5 (Jb 19 524287) rfl rfl ?_
 refine done_ (by kernel_rfl) ?_
 go_upto_region 5 with (first | (go_at_call 126; (refine (key_calls _ S.b S.bsite S.bx y.m HR1.out.mach HKD.out).mono ?_); rintro e w2 ⟨rfl, hh2⟩; rw [← HKE.out]; have hR2 := rd_still HR1.out hh2; have HR2 := jA hR2; have HK2 := jA (HK1.out.trans (still_keep hh2)); have c8 := cellOf hR2.mach 8 (nextV S.b y.m.next) rfl; have g8 := MPut.frozen_of_row hR2.mach 8; have c18 := cellOf hR2.mach 18 (.int .i64 y.m.seen) rfl; have g18 := MPut.frozen_of_row hR2.mach 18; clear hh2 hR2))
 obtain ⟨sn, hsn⟩ : ∃ sn, sn = wrap64 (y.m.seen + 1) := ⟨_, rfl⟩
 rw [← hsn]
 obtain ⟨w3, hw3⟩ : ∃ q, q = w2.setCell ⟨S.b, 18, none⟩ (.int .i64 sn) := ⟨_, rfl⟩
 have o3 : Only S.b w2 w3 := by rw [hw3]; exact (Only.refl S.b w2).setCell 18 _
 have r3 : Rd F S w3 { y with m := { y.m with seen := sn } } := by rw [hw3]; rw [hw3] at o3; exact HR2.out.put o3 (blk_set HR2.out.mach 18 _) rfl
 rw [← hw3]
 have e17 := cellOf r3.mach 17 (.int .i64 y.m.place) rfl
 have e15 := cellOf r3.mach 15 (.int .i64 y.m.size) rfl
 have HR3 := jA r3
 have HK3 := jA (HK2.out.trans (o3.keep F))
 clear hw3 o3 r3 c8 g8 c18 g18 b14 b17
 refine start_ (n := 14) (S := fun w' => w'.cell? ⟨S.b, 17, none⟩ = some (.int .i64 y.m.place) ∧ w'.cell? ⟨S.b, 15, none⟩ = some (.int .i64 y.m.size)) (ds := [13]) (Jb 14 0) (by kernel_rfl) rfl (by kernel_rfl) ⟨e17, e15⟩ (fun hHeld => ?_)
 refine Jp 0 41 (Jb 14 1) rfl rfl ?_
 refine Jp 1 42 (Jb 14 3) rfl rfl ?_
 refine Jp 2 43 (Jb 14 7) rfl rfl ?_
 refine Jp 3 44 (Jb 14 15) rfl rfl ?_
 refine Jk 4 45 (Jb 14 31) rfl rfl hHeld (.inl ⟨by rfl, by rintro w' ⟨s0, s1⟩; go_simp; with_reducible rfl⟩) ?_
 refine Jp 5 46 (Jb 14 63) rfl rfl ?_
 refine Jp 6 47 (Jb 14 127) rfl rfl ?_
 refine Jp 7 48 (Jb 14 255) rfl rfl ?_
 refine Jp 8 49 (Jb 14 511) rfl rfl ?_
 refine Jk 9 50 (Jb 14 1023) rfl rfl hHeld (.inl ⟨by rfl, by rintro w' ⟨s0, s1⟩; go_simp; with_reducible rfl⟩) ?_
 refine Jp 10 51 (Jb 14 2047) rfl rfl ?_
 refine Jp 11 52 (Jb 14 4095) rfl rfl ?_
 refine Jp 12 53 (Jb 14 8191) rfl rfl ?_
 refine last_ (i := 13) (N := none) (Jb 14 16383) rfl rfl (by kernel_rfl) (by decide) (fun K hK => ?_)
 refine GDiffer.step_skip (w' := w3.drew.setCell ⟨S.b, 17, none⟩ (.int .i64 (Int.tmod (IntKind.i64.wrap (y.m.place + 1)) y.m.size))) rfl rfl (by have hst := store_int (v := Int.tmod (IntKind.i64.wrap (y.m.place + 1)) y.m.size) (cellOf HR3.out.drew.mach 17 (.int .i64 y.m.place) rfl) (MPut.frozen_of_row HR3.out.drew.mach 17); simp [execOp, Act.eval, hst]) ?_
 refine hK.out _ _ ?_
 clear hK K
 refine done_ (by kernel_rfl) ?_
 obtain ⟨pl, hpl⟩ : ∃ pl, pl = Int.tmod (IntKind.i64.wrap (y.m.place + 1)) y.m.size := ⟨_, rfl⟩
 rw [← hpl]
 obtain ⟨w4, hw4⟩ : ∃ q, q = w3.drew.setCell ⟨S.b, 17, none⟩ (.int .i64 pl) := ⟨_, rfl⟩
 have o4 : Only S.b w3 w4 := by rw [hw4]; exact ((Only.refl S.b w3).drew).setCell 17 _
 have r4 : Rd F S w4 { y with m := { y.m with seen := sn, place := pl } } := by rw [hw4]; rw [hw4] at o4; exact HR3.out.put o4 (blk_set HR3.out.drew.mach 17 _) rfl
 rw [← hw4]
 have f18 := cellOf r4.mach 18 (.int .i64 sn) rfl
 have f15 := cellOf r4.mach 15 (.int .i64 y.m.size) rfl
 have hmm : ({ y.m with seen := sn, place := pl } : Mst) = nextM x.m := by rw [hsn, hpl, HYM.out]; simp only [nextM, i64_w]
 rw [hmm] at r4
 have HR4 := jA r4
 have HK4 := jA (HK3.out.trans (o4.keep F))
 clear hw4 o4 r4 e17 e15 hpl
 subst hv0
 go_upto_region 6 with fail
 refine start_ (n := 13) (S := fun w' => w'.cell? ⟨S.b, 18, none⟩ = some (.int .i64 sn) ∧ w'.cell? ⟨S.b, 15, none⟩ = some (.int .i64 y.m.size)) (ds := []) (Jb 13 0) (by kernel_rfl) rfl (by kernel_rfl) ⟨f18, f15⟩ (fun hHeld => ?_)
 refine Jp 0 54 (Jb 13 1) rfl rfl ?_
 refine Jp 1 55 (Jb 13 3) rfl rfl ?_
 refine Jp 2 56 (Jb 13 7) rfl rfl ?_
 refine Jk 3 57 (Jb 13 15) rfl rfl hHeld (v := undef) (.inr ⟨by rfl, rfl⟩) ?_
 refine Jk 4 58 (Jb 13 31) rfl rfl hHeld (v := undef) (.inr ⟨by rfl, rfl⟩) ?_
 refine Jk 5 59 (Jb 13 63) rfl rfl hHeld (v := undef) (.inr ⟨by rfl, rfl⟩) ?_
 refine Jk 6 60 (Jb 13 127) rfl rfl hHeld (v := undef) (.inr ⟨by rfl, rfl⟩) ?_
 refine Jk 7 61 (Jb 13 255) rfl rfl hHeld (v := undef) (.inr ⟨by rfl, rfl⟩) ?_
 refine Jk 8 62 (Jb 13 511) rfl rfl hHeld (v := undef) (.inr ⟨by rfl, rfl⟩) ?_
 refine Jk 9 63 (Jb 13 1023) rfl rfl hHeld (v := undef) (.inr ⟨by rfl, rfl⟩) ?_
 refine Jk 10 64 (Jb 13 2047) rfl rfl hHeld (v := undef) (.inr ⟨by rfl, rfl⟩) ?_
 refine Jk 11 65 (Jb 13 4095) rfl rfl hHeld (v := undef) (.inr ⟨by rfl, rfl⟩) ?_
 refine Jp 12 66 (Jb 13 8191) rfl rfl ?_
 refine done_ (by kernel_rfl) ?_
 go_wp2_with (first | (go_at_call 134; (refine (known_calls F S _ { y with m := nextM x.m } false bset C C' (HY.out.step HR4.out.drew (HK4.out.trans (((Keep.refl F w4).below (below_drew (Below.refl _ _))).less (G := Out F S.b) (fun k hk => hk.1))) rfl) HG.out).mono ?_); rintro e w5 ⟨rfl, hR5, hK5⟩; have HR5 := jA hR5; have HK5 := jA hK5; clear hR5 hK5))
 go_end0
 exact ⟨rfl, HR5.out, ((HK4.out.trans (((Keep.refl F w4).below (below_drew (Below.refl _ _))).less (G := Out F S.b) (fun k hk => hk.1))).less KF_out).trans HK5.out⟩
theorem look_full (F : Nat → Prop) (S : Sh) (w : World) (x : X) (now : Int) (bset : Nat) (C : Cst) (hy : Ry F S w x bset C) (hl : x.tr.length < 1000000000000) (h0 : lkE x.ws (slotA 4 x.m) = 0) (v : Int) (hv : lkV x.ws (slotA 4 x.m) = v) (hk : x.m.kind = 0 ∨ x.m.kind = 1 ∨ x.m.kind = 2) (hkv : v ≠ keyM x.m) (hz : 2 ≤ x.m.size) (C' : Cst) (hg : knownC S.flaw (nextM x.m) false C = some C') (hv0 : v ≠ 0) (hs : (nextM x.m).seen = x.m.size) :
  Calls Tryz.prog 127 #[.pointer (some ⟨S.b, 0, none⟩), .int .i64 now] w fun e w' => e = .returned (.tuple #[]) ∧ Ry F S w' { x.acc (slotA 4 x.m) with m := knownM (nextM x.m) false } bset C' ∧ Keep (KF F S x.m.cache bset C) w w' := by
 have h := hy.rd
 have b14 := cellOf h.mach 14 (.int .i64 x.m.page) rfl
 have b17 := cellOf h.mach 17 (.int .i64 x.m.place) rfl
 have hA : slotA 4 x.m = IntKind.i64.wrap (IntKind.i64.wrap (x.m.page + 4) + IntKind.i64.wrap (2 * x.m.place)) := by simp only [slotA, i64_w]
 have HK0 := jA (((Keep.refl F w).below (below_drew (Below.refl _ _))).less (G := Out F S.b) (fun k hk => hk.1))
 have HY := jA hy
 have HQ := jA (mload_ok F S w.drew x (slotA 4 x.m) h.drew hl h0)
 rw [hv] at HQ
 obtain ⟨y, hyy⟩ : ∃ y, y = x.acc (slotA 4 x.m) := ⟨_, rfl⟩
 have hym : y.m = x.m := by rw [hyy]; rfl
 rw [← hyy]
 rw [← hyy, hA] at HQ
 have HKD := jA (show y.m.kind = 0 ∨ y.m.kind = 1 ∨ y.m.kind = 2 by rw [hym]; exact hk)
 obtain ⟨kk, hkk⟩ : ∃ kk, kk = keyM y.m := ⟨_, rfl⟩
 have HKE := jA hkk
 have hne : (v == kk) = false := by rw [beq_eq_false_iff_ne, hkk, hym]; exact hkv
 have hz0 : y.m.size ≠ 0 := by rw [hym]; omega
 have HG := jA hg
 clear hg
 have hb0 : (v == 0) = false := by rw [beq_eq_false_iff_ne]; exact hv0
 rw [← hym] at hs
 have HYY := jA hyy
 have HYM := jA hym
 clear h hl h0 hA hy hk hkv hv hyy hkk hz hym
 go_enter Tryz.func127, Tryz.ntmps127
 go_upto_region 0 with fail
 refine start_ (n := 19) (S := fun w' => w'.cell? ⟨S.b, 14, none⟩ = some (.int .i64 x.m.page) ∧ w'.cell? ⟨S.b, 17, none⟩ = some (.int .i64 x.m.place)) (ds := []) (Jb 19 0) (by kernel_rfl) rfl (by kernel_rfl) ⟨b14, b17⟩ (fun hHeld => ?_)
 refine Jp 0 7 (Jb 19 1) rfl rfl ?_
 refine Jp 1 8 (Jb 19 3) rfl rfl ?_
 refine Jp 2 9 (Jb 19 7) rfl rfl ?_
 refine Jp 3 10 (Jb 19 15) rfl rfl ?_
 refine Jp 4 11 (Jb 19 31) rfl rfl ?_
 refine Jk 5 12 (Jb 19 63) rfl rfl hHeld (.inl ⟨by rfl, by rintro w' ⟨s0, s1⟩; go_simp; with_reducible rfl⟩) ?_
 refine Jp 6 13 (Jb 19 127) rfl rfl ?_
 refine Jp 7 14 (Jb 19 255) rfl rfl ?_
 refine Jp 8 15 (Jb 19 511) rfl rfl ?_
 refine Jp 9 16 (Jb 19 1023) rfl rfl ?_
 refine Jk 10 17 (Jb 19 2047) rfl rfl hHeld (.inl ⟨by rfl, by rintro w' ⟨s0, s1⟩; go_simp; with_reducible rfl⟩) ?_
 refine Jp 11 18 (Jb 19 4095) rfl rfl ?_
 refine Jp 12 19 (Jb 19 8191) rfl rfl ?_
 refine one_ (i := 13) (N := some 20) (Jb 19 16383) rfl rfl (by kernel_rfl) (by decide) (fun K hK => ?_)
 refine goes_ Tryz.func85 (by kernel_rfl) rfl #[.pointer (some ⟨S.b, 0, none⟩), .int .i64 (IntKind.i64.wrap (IntKind.i64.wrap (x.m.page + 4) + IntKind.i64.wrap (2 * x.m.place)))] (by rfl) rfl rfl (by (try simp only [List.map_toArray, List.map_cons, List.map_nil]); first | done | rfl) ?_
 refine HQ.out.mono ?_
 rintro e w1 ⟨rfl, hR1, hK1⟩
 refine ⟨_, rfl, ?_⟩
 have HR1 := jA hR1
 have HK1 := jA (HK0.out.trans hK1)
 refine hK.out _ _ ⟨cellOf hR1.mach 14 (.int .i64 y.m.page) rfl |>.trans (by rw [HYM.out]), cellOf hR1.mach 17 (.int .i64 y.m.place) rfl |>.trans (by rw [HYM.out])⟩ (fun hHeld => ?_)
 clear hK K hR1 hK1
 refine norm_ (a' := ?_) ?_ ?_; rotate_left; (show Act.put _ (some 20) _ = _; simp only [Act.put, Jq, Jr, Js]; rfl)
 refine Jp 14 6 (Jb 19 32767) rfl rfl ?_
 refine Jp 15 21 (Jb 19 65535) rfl rfl ?_
 refine Jp 16 22 (Jb 19 131071) rfl rfl ?_
 refine Jp 17 4 (Jb 19 262143) rfl rfl ?_
 refine Jp 18 5 (Jb 19 524287) rfl rfl ?_
 refine done_ (by kernel_rfl) ?_
 go_upto_region 5 with (first | (go_at_call 126; (refine (key_calls _ S.b S.bsite S.bx y.m HR1.out.mach HKD.out).mono ?_); rintro e w2 ⟨rfl, hh2⟩; rw [← HKE.out]; have hR2 := rd_still HR1.out hh2; have HR2 := jA hR2; have HK2 := jA (HK1.out.trans (still_keep hh2)); have c8 := cellOf hR2.mach 8 (nextV S.b y.m.next) rfl; have g8 := MPut.frozen_of_row hR2.mach 8; have c18 := cellOf hR2.mach 18 (.int .i64 y.m.seen) rfl; have g18 := MPut.frozen_of_row hR2.mach 18; clear hh2 hR2))
 obtain ⟨sn, hsn⟩ : ∃ sn, sn = wrap64 (y.m.seen + 1) := ⟨_, rfl⟩
 rw [← hsn]
 obtain ⟨w3, hw3⟩ : ∃ q, q = w2.setCell ⟨S.b, 18, none⟩ (.int .i64 sn) := ⟨_, rfl⟩
 have o3 : Only S.b w2 w3 := by rw [hw3]; exact (Only.refl S.b w2).setCell 18 _
 have r3 : Rd F S w3 { y with m := { y.m with seen := sn } } := by rw [hw3]; rw [hw3] at o3; exact HR2.out.put o3 (blk_set HR2.out.mach 18 _) rfl
 rw [← hw3]
 have e17 := cellOf r3.mach 17 (.int .i64 y.m.place) rfl
 have e15 := cellOf r3.mach 15 (.int .i64 y.m.size) rfl
 have HR3 := jA r3
 have HK3 := jA (HK2.out.trans (o3.keep F))
 clear hw3 o3 r3 c8 g8 c18 g18 b14 b17
 refine start_ (n := 14) (S := fun w' => w'.cell? ⟨S.b, 17, none⟩ = some (.int .i64 y.m.place) ∧ w'.cell? ⟨S.b, 15, none⟩ = some (.int .i64 y.m.size)) (ds := [13]) (Jb 14 0) (by kernel_rfl) rfl (by kernel_rfl) ⟨e17, e15⟩ (fun hHeld => ?_)
 refine Jp 0 41 (Jb 14 1) rfl rfl ?_
 refine Jp 1 42 (Jb 14 3) rfl rfl ?_
 refine Jp 2 43 (Jb 14 7) rfl rfl ?_
 refine Jp 3 44 (Jb 14 15) rfl rfl ?_
 refine Jk 4 45 (Jb 14 31) rfl rfl hHeld (.inl ⟨by rfl, by rintro w' ⟨s0, s1⟩; go_simp; with_reducible rfl⟩) ?_
 refine Jp 5 46 (Jb 14 63) rfl rfl ?_
 refine Jp 6 47 (Jb 14 127) rfl rfl ?_
 refine Jp 7 48 (Jb 14 255) rfl rfl ?_
 refine Jp 8 49 (Jb 14 511) rfl rfl ?_
 refine Jk 9 50 (Jb 14 1023) rfl rfl hHeld (.inl ⟨by rfl, by rintro w' ⟨s0, s1⟩; go_simp; with_reducible rfl⟩) ?_
 refine Jp 10 51 (Jb 14 2047) rfl rfl ?_
 refine Jp 11 52 (Jb 14 4095) rfl rfl ?_
 refine Jp 12 53 (Jb 14 8191) rfl rfl ?_
 refine last_ (i := 13) (N := none) (Jb 14 16383) rfl rfl (by kernel_rfl) (by decide) (fun K hK => ?_)
 refine GDiffer.step_skip (w' := w3.drew.setCell ⟨S.b, 17, none⟩ (.int .i64 (Int.tmod (IntKind.i64.wrap (y.m.place + 1)) y.m.size))) rfl rfl (by have hst := store_int (v := Int.tmod (IntKind.i64.wrap (y.m.place + 1)) y.m.size) (cellOf HR3.out.drew.mach 17 (.int .i64 y.m.place) rfl) (MPut.frozen_of_row HR3.out.drew.mach 17); simp [execOp, Act.eval, hst]) ?_
 refine hK.out _ _ ?_
 clear hK K
 refine done_ (by kernel_rfl) ?_
 obtain ⟨pl, hpl⟩ : ∃ pl, pl = Int.tmod (IntKind.i64.wrap (y.m.place + 1)) y.m.size := ⟨_, rfl⟩
 rw [← hpl]
 obtain ⟨w4, hw4⟩ : ∃ q, q = w3.drew.setCell ⟨S.b, 17, none⟩ (.int .i64 pl) := ⟨_, rfl⟩
 have o4 : Only S.b w3 w4 := by rw [hw4]; exact ((Only.refl S.b w3).drew).setCell 17 _
 have r4 : Rd F S w4 { y with m := { y.m with seen := sn, place := pl } } := by rw [hw4]; rw [hw4] at o4; exact HR3.out.put o4 (blk_set HR3.out.drew.mach 17 _) rfl
 rw [← hw4]
 have f18 := cellOf r4.mach 18 (.int .i64 sn) rfl
 have f15 := cellOf r4.mach 15 (.int .i64 y.m.size) rfl
 have hmm : ({ y.m with seen := sn, place := pl } : Mst) = nextM x.m := by rw [hsn, hpl, HYM.out]; simp only [nextM, i64_w]
 rw [hmm] at r4
 have HR4 := jA r4
 have HK4 := jA (HK3.out.trans (o4.keep F))
 clear hw4 o4 r4 e17 e15 hpl
 have hse : (sn == y.m.size) = true := by rw [hsn]; simpa [nextM] using hs
 go_upto_region 6 with fail
 refine start_ (n := 13) (S := fun w' => w'.cell? ⟨S.b, 18, none⟩ = some (.int .i64 sn) ∧ w'.cell? ⟨S.b, 15, none⟩ = some (.int .i64 y.m.size)) (ds := []) (Jb 13 0) (by kernel_rfl) rfl (by kernel_rfl) ⟨f18, f15⟩ (fun hHeld => ?_)
 refine Jp 0 54 (Jb 13 1) rfl rfl ?_
 refine Jp 1 55 (Jb 13 3) rfl rfl ?_
 refine Jp 2 56 (Jb 13 7) rfl rfl ?_
 refine Jp 3 57 (Jb 13 15) rfl rfl ?_
 refine Jp 4 58 (Jb 13 31) rfl rfl ?_
 refine Jp 5 59 (Jb 13 63) rfl rfl ?_
 refine Jk 6 60 (Jb 13 127) rfl rfl hHeld (.inl ⟨by rfl, by rintro w' ⟨s0, s1⟩; go_simp; with_reducible rfl⟩) ?_
 refine Jp 7 61 (Jb 13 255) rfl rfl ?_
 refine Jp 8 62 (Jb 13 511) rfl rfl ?_
 refine Jp 9 63 (Jb 13 1023) rfl rfl ?_
 refine Jk 10 64 (Jb 13 2047) rfl rfl hHeld (.inl ⟨by rfl, by rintro w' ⟨s0, s1⟩; go_simp; with_reducible rfl⟩) ?_
 refine Jp 11 65 (Jb 13 4095) rfl rfl ?_
 refine Jp 12 66 (Jb 13 8191) rfl rfl ?_
 refine done_ (by kernel_rfl) ?_
 go_wp2_with (first | (go_at_call 134; (refine (known_calls F S _ { y with m := nextM x.m } false bset C C' (HY.out.step HR4.out.drew (HK4.out.trans (((Keep.refl F w4).below (below_drew (Below.refl _ _))).less (G := Out F S.b) (fun k hk => hk.1))) rfl) HG.out).mono ?_); rintro e w5 ⟨rfl, hR5, hK5⟩; have HR5 := jA hR5; have HK5 := jA hK5; clear hR5 hK5))
 go_end0
 exact ⟨rfl, HR5.out, ((HK4.out.trans (((Keep.refl F w4).below (below_drew (Below.refl _ _))).less (G := Out F S.b) (fun k hk => hk.1))).less KF_out).trans HK5.out⟩
theorem look_next (F : Nat → Prop) (S : Sh) (w : World) (x : X) (now : Int) (bset : Nat) (C : Cst) (hy : Ry F S w x bset C) (hl : x.tr.length < 1000000000000) (h0 : lkE x.ws (slotA 4 x.m) = 0) (v : Int) (hv : lkV x.ws (slotA 4 x.m) = v) (hk : x.m.kind = 0 ∨ x.m.kind = 1 ∨ x.m.kind = 2) (hkv : v ≠ keyM x.m) (hz : 2 ≤ x.m.size) (hv0 : v ≠ 0) (hs : (nextM x.m).seen ≠ x.m.size) :
  Calls Tryz.prog 127 #[.pointer (some ⟨S.b, 0, none⟩), .int .i64 now] w fun e w' => e = .returned (.tuple #[]) ∧ Ry F S w' { x.acc (slotA 4 x.m) with m := nextM x.m } bset C ∧ Keep (KF F S x.m.cache bset C) w w' := by
 have h := hy.rd
 have b14 := cellOf h.mach 14 (.int .i64 x.m.page) rfl
 have b17 := cellOf h.mach 17 (.int .i64 x.m.place) rfl
 have hA : slotA 4 x.m = IntKind.i64.wrap (IntKind.i64.wrap (x.m.page + 4) + IntKind.i64.wrap (2 * x.m.place)) := by simp only [slotA, i64_w]
 have HK0 := jA (((Keep.refl F w).below (below_drew (Below.refl _ _))).less (G := Out F S.b) (fun k hk => hk.1))
 have HY := jA hy
 have HQ := jA (mload_ok F S w.drew x (slotA 4 x.m) h.drew hl h0)
 rw [hv] at HQ
 obtain ⟨y, hyy⟩ : ∃ y, y = x.acc (slotA 4 x.m) := ⟨_, rfl⟩
 have hym : y.m = x.m := by rw [hyy]; rfl
 rw [← hyy]
 rw [← hyy, hA] at HQ
 have HKD := jA (show y.m.kind = 0 ∨ y.m.kind = 1 ∨ y.m.kind = 2 by rw [hym]; exact hk)
 obtain ⟨kk, hkk⟩ : ∃ kk, kk = keyM y.m := ⟨_, rfl⟩
 have HKE := jA hkk
 have hne : (v == kk) = false := by rw [beq_eq_false_iff_ne, hkk, hym]; exact hkv
 have hz0 : y.m.size ≠ 0 := by rw [hym]; omega
 have hb0 : (v == 0) = false := by rw [beq_eq_false_iff_ne]; exact hv0
 rw [← hym] at hs
 have HYY := jA hyy
 have HYM := jA hym
 clear h hl h0 hA hy hk hkv hv hyy hkk hz hym
 go_enter Tryz.func127, Tryz.ntmps127
 go_upto_region 0 with fail
 refine start_ (n := 19) (S := fun w' => w'.cell? ⟨S.b, 14, none⟩ = some (.int .i64 x.m.page) ∧ w'.cell? ⟨S.b, 17, none⟩ = some (.int .i64 x.m.place)) (ds := []) (Jb 19 0) (by kernel_rfl) rfl (by kernel_rfl) ⟨b14, b17⟩ (fun hHeld => ?_)
 refine Jp 0 7 (Jb 19 1) rfl rfl ?_
 refine Jp 1 8 (Jb 19 3) rfl rfl ?_
 refine Jp 2 9 (Jb 19 7) rfl rfl ?_
 refine Jp 3 10 (Jb 19 15) rfl rfl ?_
 refine Jp 4 11 (Jb 19 31) rfl rfl ?_
 refine Jk 5 12 (Jb 19 63) rfl rfl hHeld (.inl ⟨by rfl, by rintro w' ⟨s0, s1⟩; go_simp; with_reducible rfl⟩) ?_
 refine Jp 6 13 (Jb 19 127) rfl rfl ?_
 refine Jp 7 14 (Jb 19 255) rfl rfl ?_
 refine Jp 8 15 (Jb 19 511) rfl rfl ?_
 refine Jp 9 16 (Jb 19 1023) rfl rfl ?_
 refine Jk 10 17 (Jb 19 2047) rfl rfl hHeld (.inl ⟨by rfl, by rintro w' ⟨s0, s1⟩; go_simp; with_reducible rfl⟩) ?_
 refine Jp 11 18 (Jb 19 4095) rfl rfl ?_
 refine Jp 12 19 (Jb 19 8191) rfl rfl ?_
 refine one_ (i := 13) (N := some 20) (Jb 19 16383) rfl rfl (by kernel_rfl) (by decide) (fun K hK => ?_)
 refine goes_ Tryz.func85 (by kernel_rfl) rfl #[.pointer (some ⟨S.b, 0, none⟩), .int .i64 (IntKind.i64.wrap (IntKind.i64.wrap (x.m.page + 4) + IntKind.i64.wrap (2 * x.m.place)))] (by rfl) rfl rfl (by (try simp only [List.map_toArray, List.map_cons, List.map_nil]); first | done | rfl) ?_
 refine HQ.out.mono ?_
 rintro e w1 ⟨rfl, hR1, hK1⟩
 refine ⟨_, rfl, ?_⟩
 have HR1 := jA hR1
 have HK1 := jA (HK0.out.trans hK1)
 refine hK.out _ _ ⟨cellOf hR1.mach 14 (.int .i64 y.m.page) rfl |>.trans (by rw [HYM.out]), cellOf hR1.mach 17 (.int .i64 y.m.place) rfl |>.trans (by rw [HYM.out])⟩ (fun hHeld => ?_)
 clear hK K hR1 hK1
 refine norm_ (a' := ?_) ?_ ?_; rotate_left; (show Act.put _ (some 20) _ = _; simp only [Act.put, Jq, Jr, Js]; rfl)
 refine Jp 14 6 (Jb 19 32767) rfl rfl ?_
 refine Jp 15 21 (Jb 19 65535) rfl rfl ?_
 refine Jp 16 22 (Jb 19 131071) rfl rfl ?_
 refine Jp 17 4 (Jb 19 262143) rfl rfl ?_
 refine Jp 18 5 (Jb 19 524287) rfl rfl ?_
 refine done_ (by kernel_rfl) ?_
 go_upto_region 5 with (first | (go_at_call 126; (refine (key_calls _ S.b S.bsite S.bx y.m HR1.out.mach HKD.out).mono ?_); rintro e w2 ⟨rfl, hh2⟩; rw [← HKE.out]; have hR2 := rd_still HR1.out hh2; have HR2 := jA hR2; have HK2 := jA (HK1.out.trans (still_keep hh2)); have c8 := cellOf hR2.mach 8 (nextV S.b y.m.next) rfl; have g8 := MPut.frozen_of_row hR2.mach 8; have c18 := cellOf hR2.mach 18 (.int .i64 y.m.seen) rfl; have g18 := MPut.frozen_of_row hR2.mach 18; clear hh2 hR2))
 obtain ⟨sn, hsn⟩ : ∃ sn, sn = wrap64 (y.m.seen + 1) := ⟨_, rfl⟩
 rw [← hsn]
 obtain ⟨w3, hw3⟩ : ∃ q, q = w2.setCell ⟨S.b, 18, none⟩ (.int .i64 sn) := ⟨_, rfl⟩
 have o3 : Only S.b w2 w3 := by rw [hw3]; exact (Only.refl S.b w2).setCell 18 _
 have r3 : Rd F S w3 { y with m := { y.m with seen := sn } } := by rw [hw3]; rw [hw3] at o3; exact HR2.out.put o3 (blk_set HR2.out.mach 18 _) rfl
 rw [← hw3]
 have e17 := cellOf r3.mach 17 (.int .i64 y.m.place) rfl
 have e15 := cellOf r3.mach 15 (.int .i64 y.m.size) rfl
 have HR3 := jA r3
 have HK3 := jA (HK2.out.trans (o3.keep F))
 clear hw3 o3 r3 c8 g8 c18 g18 b14 b17
 refine start_ (n := 14) (S := fun w' => w'.cell? ⟨S.b, 17, none⟩ = some (.int .i64 y.m.place) ∧ w'.cell? ⟨S.b, 15, none⟩ = some (.int .i64 y.m.size)) (ds := [13]) (Jb 14 0) (by kernel_rfl) rfl (by kernel_rfl) ⟨e17, e15⟩ (fun hHeld => ?_)
 refine Jp 0 41 (Jb 14 1) rfl rfl ?_
 refine Jp 1 42 (Jb 14 3) rfl rfl ?_
 refine Jp 2 43 (Jb 14 7) rfl rfl ?_
 refine Jp 3 44 (Jb 14 15) rfl rfl ?_
 refine Jk 4 45 (Jb 14 31) rfl rfl hHeld (.inl ⟨by rfl, by rintro w' ⟨s0, s1⟩; go_simp; with_reducible rfl⟩) ?_
 refine Jp 5 46 (Jb 14 63) rfl rfl ?_
 refine Jp 6 47 (Jb 14 127) rfl rfl ?_
 refine Jp 7 48 (Jb 14 255) rfl rfl ?_
 refine Jp 8 49 (Jb 14 511) rfl rfl ?_
 refine Jk 9 50 (Jb 14 1023) rfl rfl hHeld (.inl ⟨by rfl, by rintro w' ⟨s0, s1⟩; go_simp; with_reducible rfl⟩) ?_
 refine Jp 10 51 (Jb 14 2047) rfl rfl ?_
 refine Jp 11 52 (Jb 14 4095) rfl rfl ?_
 refine Jp 12 53 (Jb 14 8191) rfl rfl ?_
 refine last_ (i := 13) (N := none) (Jb 14 16383) rfl rfl (by kernel_rfl) (by decide) (fun K hK => ?_)
 refine GDiffer.step_skip (w' := w3.drew.setCell ⟨S.b, 17, none⟩ (.int .i64 (Int.tmod (IntKind.i64.wrap (y.m.place + 1)) y.m.size))) rfl rfl (by have hst := store_int (v := Int.tmod (IntKind.i64.wrap (y.m.place + 1)) y.m.size) (cellOf HR3.out.drew.mach 17 (.int .i64 y.m.place) rfl) (MPut.frozen_of_row HR3.out.drew.mach 17); simp [execOp, Act.eval, hst]) ?_
 refine hK.out _ _ ?_
 clear hK K
 refine done_ (by kernel_rfl) ?_
 obtain ⟨pl, hpl⟩ : ∃ pl, pl = Int.tmod (IntKind.i64.wrap (y.m.place + 1)) y.m.size := ⟨_, rfl⟩
 rw [← hpl]
 obtain ⟨w4, hw4⟩ : ∃ q, q = w3.drew.setCell ⟨S.b, 17, none⟩ (.int .i64 pl) := ⟨_, rfl⟩
 have o4 : Only S.b w3 w4 := by rw [hw4]; exact ((Only.refl S.b w3).drew).setCell 17 _
 have r4 : Rd F S w4 { y with m := { y.m with seen := sn, place := pl } } := by rw [hw4]; rw [hw4] at o4; exact HR3.out.put o4 (blk_set HR3.out.drew.mach 17 _) rfl
 rw [← hw4]
 have f18 := cellOf r4.mach 18 (.int .i64 sn) rfl
 have f15 := cellOf r4.mach 15 (.int .i64 y.m.size) rfl
 have hmm : ({ y.m with seen := sn, place := pl } : Mst) = nextM x.m := by rw [hsn, hpl, HYM.out]; simp only [nextM, i64_w]
 rw [hmm] at r4
 have HR4 := jA r4
 have HK4 := jA (HK3.out.trans (o4.keep F))
 clear hw4 o4 r4 e17 e15 hpl
 have hse : (sn == y.m.size) = false := by rw [hsn, beq_eq_false_iff_ne]; exact hs
 go_upto_region 6 with fail
 refine start_ (n := 13) (S := fun w' => w'.cell? ⟨S.b, 18, none⟩ = some (.int .i64 sn) ∧ w'.cell? ⟨S.b, 15, none⟩ = some (.int .i64 y.m.size)) (ds := []) (Jb 13 0) (by kernel_rfl) rfl (by kernel_rfl) ⟨f18, f15⟩ (fun hHeld => ?_)
 refine Jp 0 54 (Jb 13 1) rfl rfl ?_
 refine Jp 1 55 (Jb 13 3) rfl rfl ?_
 refine Jp 2 56 (Jb 13 7) rfl rfl ?_
 refine Jp 3 57 (Jb 13 15) rfl rfl ?_
 refine Jp 4 58 (Jb 13 31) rfl rfl ?_
 refine Jp 5 59 (Jb 13 63) rfl rfl ?_
 refine Jk 6 60 (Jb 13 127) rfl rfl hHeld (.inl ⟨by rfl, by rintro w' ⟨s0, s1⟩; go_simp; with_reducible rfl⟩) ?_
 refine Jp 7 61 (Jb 13 255) rfl rfl ?_
 refine Jp 8 62 (Jb 13 511) rfl rfl ?_
 refine Jp 9 63 (Jb 13 1023) rfl rfl ?_
 refine Jk 10 64 (Jb 13 2047) rfl rfl hHeld (.inl ⟨by rfl, by rintro w' ⟨s0, s1⟩; go_simp; with_reducible rfl⟩) ?_
 refine Jp 11 65 (Jb 13 4095) rfl rfl ?_
 refine Jp 12 66 (Jb 13 8191) rfl rfl ?_
 refine done_ (by kernel_rfl) ?_
 go_wp2
 go_end0
 have hk6 := HK4.out.trans (((Keep.refl F w4).below (below_drew (Below.refl _ _))).less (G := Out F S.b) (fun k hk => hk.1))
 exact ⟨rfl, HY.out.step HR4.out.drew hk6 rfl, hk6.less KF_out⟩
end Go.Proofs.YtdgkppldopiaoaaGreat.RLk
/- reader.Machine's mask, walked. -/
namespace Go.Proofs.YtdgkppldopiaoaaGreat.RMask
open Go.RowKit YtdgkppldopiaoaaGreatW.PrintWords YtdgkppldopiaoaaGreatW.PrintLast YtdgkppldopiaoaaGreatW.PrintMore BMap BRow GDiffer MLines MPol MPut RMem RCells REpoch RMach RSteps RSeek RLook RNum RCache RBegin RCat RCget RCput RVer RKnown RLk Go.Maps
open PG
set_option maxHeartbeats 1000000
set_option maxRecDepth 100000
def maskA (m : Mst) : Int := wrap64 (wrap64 (wrap64 (wrap64 (wrap64 (m.page + 4) + wrap64 (2 * m.size)) + wrap64 (wrap64 (m.f0 - 1) * m.cols)) + m.f1) - 1)
def bitI (v z : Int) : Bool := bits BinOp.and IntKind.i64 (v / 2 ^ (z.toNat - 1)) 1 == 1
theorem mask_bad (F : Nat → Prop) (S : Sh) (w : World) (x : X) (now : Int) (bset : Nat) (C : Cst) (hy : Ry F S w x bset C) (hl : x.tr.length < 1000000000000) (h0 : lkE x.ws (maskA x.m) ≠ 0) :
  Calls Tryz.prog 142 #[.pointer (some ⟨S.b, 0, none⟩), .int .i64 now] w fun e w' => e = .returned (.tuple #[]) ∧ Ry F S w' { x.acc (maskA x.m) with m := brk x.m } bset C ∧ Keep (KF F S x.m.cache bset C) w w' := by
 have h := hy.rd
 have b14 := cellOf h.mach 14 (.int .i64 x.m.page) rfl
 have b15 := cellOf h.mach 15 (.int .i64 x.m.size) rfl
 have b19 := cellOf h.mach 19 (.int .i64 x.m.f0) rfl
 have b22 := cellOf h.mach 22 (.int .i64 x.m.cols) rfl
 have b20 := cellOf h.mach 20 (.int .i64 x.m.f1) rfl
 have hA : maskA x.m = (IntKind.i64.wrap (IntKind.i64.wrap (IntKind.i64.wrap (IntKind.i64.wrap (IntKind.i64.wrap (x.m.page + 4) + IntKind.i64.wrap (2 * x.m.size)) + IntKind.i64.wrap (IntKind.i64.wrap (x.m.f0 - 1) * x.m.cols)) + x.m.f1) - 1)) := by simp only [maskA, i64_w]
 have HK0 := jA (((Keep.refl F w).below (below_drew (Below.refl _ _))).less (G := Out F S.b) (fun k hk => hk.1))
 have HY := jA hy
 have HQ := jA (mload_bad F S w.drew x (maskA x.m) h.drew hl h0)
 rw [hA] at HQ
 rw [hA]
 clear h hl h0 hA hy
 go_enter Tryz.func142, Tryz.ntmps142
 go_upto_region 0 with fail
 refine start_ (n := 38) (S := fun w' => w'.cell? ⟨S.b, 14, none⟩ = some (.int .i64 x.m.page) ∧ w'.cell? ⟨S.b, 15, none⟩ = some (.int .i64 x.m.size) ∧ w'.cell? ⟨S.b, 19, none⟩ = some (.int .i64 x.m.f0) ∧ w'.cell? ⟨S.b, 22, none⟩ = some (.int .i64 x.m.cols) ∧ w'.cell? ⟨S.b, 20, none⟩ = some (.int .i64 x.m.f1)) (ds := []) (Jb 38 0) (by kernel_rfl) rfl (by kernel_rfl) ⟨b14, b15, b19, b22, b20⟩ (fun hHeld => ?_)
 refine Jp 0 8 (Jb 38 1) rfl rfl ?_
 refine Jp 1 9 (Jb 38 3) rfl rfl ?_
 refine Jp 2 10 (Jb 38 7) rfl rfl ?_
 refine Jp 3 11 (Jb 38 15) rfl rfl ?_
 refine Jp 4 12 (Jb 38 31) rfl rfl ?_
 refine Jk 5 13 (Jb 38 63) rfl rfl hHeld (.inl ⟨by rfl, by rintro w' ⟨s0, s1, s2, s3, s4⟩; go_simp; with_reducible rfl⟩) ?_
 refine Jp 6 14 (Jb 38 127) rfl rfl ?_
 refine Jp 7 15 (Jb 38 255) rfl rfl ?_
 refine Jp 8 16 (Jb 38 511) rfl rfl ?_
 refine Jp 9 17 (Jb 38 1023) rfl rfl ?_
 refine Jk 10 18 (Jb 38 2047) rfl rfl hHeld (.inl ⟨by rfl, by rintro w' ⟨s0, s1, s2, s3, s4⟩; go_simp; with_reducible rfl⟩) ?_
 refine Jp 11 19 (Jb 38 4095) rfl rfl ?_
 refine Jp 12 20 (Jb 38 8191) rfl rfl ?_
 refine Jp 13 21 (Jb 38 16383) rfl rfl ?_
 refine Jp 14 22 (Jb 38 32767) rfl rfl ?_
 refine Jp 15 23 (Jb 38 65535) rfl rfl ?_
 refine Jp 16 24 (Jb 38 131071) rfl rfl ?_
 refine Jk 17 25 (Jb 38 262143) rfl rfl hHeld (.inl ⟨by rfl, by rintro w' ⟨s0, s1, s2, s3, s4⟩; go_simp; with_reducible rfl⟩) ?_
 refine Jp 18 26 (Jb 38 524287) rfl rfl ?_
 refine Jp 19 27 (Jb 38 1048575) rfl rfl ?_
 refine Jp 20 28 (Jb 38 2097151) rfl rfl ?_
 refine Jp 21 29 (Jb 38 4194303) rfl rfl ?_
 refine Jk 22 30 (Jb 38 8388607) rfl rfl hHeld (.inl ⟨by rfl, by rintro w' ⟨s0, s1, s2, s3, s4⟩; go_simp; with_reducible rfl⟩) ?_
 refine Jp 23 31 (Jb 38 16777215) rfl rfl ?_
 refine Jp 24 32 (Jb 38 33554431) rfl rfl ?_
 refine Jp 25 33 (Jb 38 67108863) rfl rfl ?_
 refine Jp 26 34 (Jb 38 134217727) rfl rfl ?_
 refine Jp 27 35 (Jb 38 268435455) rfl rfl ?_
 refine Jp 28 36 (Jb 38 536870911) rfl rfl ?_
 refine Jk 29 37 (Jb 38 1073741823) rfl rfl hHeld (.inl ⟨by rfl, by rintro w' ⟨s0, s1, s2, s3, s4⟩; go_simp; with_reducible rfl⟩) ?_
 refine Jp 30 38 (Jb 38 2147483647) rfl rfl ?_
 refine Jp 31 39 (Jb 38 4294967295) rfl rfl ?_
 refine one_ (i := 32) (N := some 40) (Jb 38 8589934591) rfl rfl (by kernel_rfl) (by decide) (fun K hK => ?_)
 refine goes_ Tryz.func85 (by kernel_rfl) rfl #[.pointer (some ⟨S.b, 0, none⟩), .int .i64 (IntKind.i64.wrap (IntKind.i64.wrap (IntKind.i64.wrap (IntKind.i64.wrap (IntKind.i64.wrap (x.m.page + 4) + IntKind.i64.wrap (2 * x.m.size)) + IntKind.i64.wrap (IntKind.i64.wrap (x.m.f0 - 1) * x.m.cols)) + x.m.f1) - 1))] (by rfl) rfl rfl (by (try simp only [List.map_toArray, List.map_cons, List.map_nil]); first | done | rfl) ?_
 refine HQ.out.mono ?_
 rintro e w1 ⟨rfl, hR1, hK1⟩
 refine ⟨_, rfl, ?_⟩
 have HR1 := jA hR1
 have HK1 := jA (HK0.out.trans hK1)
 refine hK.out _ _ ⟨(cellOf hR1.mach 14 (.int .i64 x.m.page) rfl).trans rfl, (cellOf hR1.mach 15 (.int .i64 x.m.size) rfl).trans rfl, (cellOf hR1.mach 19 (.int .i64 x.m.f0) rfl).trans rfl, (cellOf hR1.mach 22 (.int .i64 x.m.cols) rfl).trans rfl, (cellOf hR1.mach 20 (.int .i64 x.m.f1) rfl).trans rfl⟩ (fun hHeld => ?_)
 clear hK K hR1 hK1
 refine norm_ (a' := ?_) ?_ ?_; rotate_left; (show Act.put _ (some 40) _ = _; simp only [Act.put, Jq, Jr, Js]; rfl)
 refine Jp 33 7 (Jb 38 17179869183) rfl rfl ?_
 refine Jp 34 41 (Jb 38 34359738367) rfl rfl ?_
 refine Jp 35 42 (Jb 38 68719476735) rfl rfl ?_
 refine Jp 36 4 (Jb 38 137438953471) rfl rfl ?_
 refine Jp 37 5 (Jb 38 274877906943) rfl rfl ?_
 refine done_ (by kernel_rfl) ?_
 go_wp2
 (try simp only [Exit.inBlock, Exit.then])
 refine bodyPost_ret (results_none rfl _ _ _) rfl ?_
 exact ⟨rfl, HY.out.step HR1.out HK1.out rfl, HK1.out.less KF_out⟩
theorem mask_low (F : Nat → Prop) (S : Sh) (w : World) (x : X) (now : Int) (bset : Nat) (C : Cst) (hy : Ry F S w x bset C) (hl : x.tr.length < 1000000000000) (h0 : lkE x.ws (maskA x.m) = 0) (v : Int) (hv : lkV x.ws (maskA x.m) = v) (hz : x.m.f2 < 1) :
  Calls Tryz.prog 142 #[.pointer (some ⟨S.b, 0, none⟩), .int .i64 now] w fun e w' => e = .returned (.tuple #[]) ∧ Ry F S w' { x.acc (maskA x.m) with m := brk x.m } bset C ∧ Keep (KF F S x.m.cache bset C) w w' := by
 have h := hy.rd
 have b14 := cellOf h.mach 14 (.int .i64 x.m.page) rfl
 have b15 := cellOf h.mach 15 (.int .i64 x.m.size) rfl
 have b19 := cellOf h.mach 19 (.int .i64 x.m.f0) rfl
 have b22 := cellOf h.mach 22 (.int .i64 x.m.cols) rfl
 have b20 := cellOf h.mach 20 (.int .i64 x.m.f1) rfl
 have hA : maskA x.m = (IntKind.i64.wrap (IntKind.i64.wrap (IntKind.i64.wrap (IntKind.i64.wrap (IntKind.i64.wrap (x.m.page + 4) + IntKind.i64.wrap (2 * x.m.size)) + IntKind.i64.wrap (IntKind.i64.wrap (x.m.f0 - 1) * x.m.cols)) + x.m.f1) - 1)) := by simp only [maskA, i64_w]
 have HK0 := jA (((Keep.refl F w).below (below_drew (Below.refl _ _))).less (G := Out F S.b) (fun k hk => hk.1))
 have HY := jA hy
 have HQ := jA (mload_ok F S w.drew x (maskA x.m) h.drew hl h0)
 rw [hv] at HQ
 obtain ⟨y, hyy⟩ : ∃ y, y = x.acc (maskA x.m) := ⟨_, rfl⟩
 have hym : y.m = x.m := by rw [hyy]; rfl
 rw [← hyy]
 rw [← hyy, hA] at HQ
 have HYM := jA hym
 have HYY := jA hyy
 rw [← hym] at hz
 clear h hl h0 hA hy hv hyy hym
 go_enter Tryz.func142, Tryz.ntmps142
 go_upto_region 0 with fail
 refine start_ (n := 38) (S := fun w' => w'.cell? ⟨S.b, 14, none⟩ = some (.int .i64 x.m.page) ∧ w'.cell? ⟨S.b, 15, none⟩ = some (.int .i64 x.m.size) ∧ w'.cell? ⟨S.b, 19, none⟩ = some (.int .i64 x.m.f0) ∧ w'.cell? ⟨S.b, 22, none⟩ = some (.int .i64 x.m.cols) ∧ w'.cell? ⟨S.b, 20, none⟩ = some (.int .i64 x.m.f1)) (ds := []) (Jb 38 0) (by kernel_rfl) rfl (by kernel_rfl) ⟨b14, b15, b19, b22, b20⟩ (fun hHeld => ?_)
 refine Jp 0 8 (Jb 38 1) rfl rfl ?_
 refine Jp 1 9 (Jb 38 3) rfl rfl ?_
 refine Jp 2 10 (Jb 38 7) rfl rfl ?_
 refine Jp 3 11 (Jb 38 15) rfl rfl ?_
 refine Jp 4 12 (Jb 38 31) rfl rfl ?_
 refine Jk 5 13 (Jb 38 63) rfl rfl hHeld (.inl ⟨by rfl, by rintro w' ⟨s0, s1, s2, s3, s4⟩; go_simp; with_reducible rfl⟩) ?_
 refine Jp 6 14 (Jb 38 127) rfl rfl ?_
 refine Jp 7 15 (Jb 38 255) rfl rfl ?_
 refine Jp 8 16 (Jb 38 511) rfl rfl ?_
 refine Jp 9 17 (Jb 38 1023) rfl rfl ?_
 refine Jk 10 18 (Jb 38 2047) rfl rfl hHeld (.inl ⟨by rfl, by rintro w' ⟨s0, s1, s2, s3, s4⟩; go_simp; with_reducible rfl⟩) ?_
 refine Jp 11 19 (Jb 38 4095) rfl rfl ?_
 refine Jp 12 20 (Jb 38 8191) rfl rfl ?_
 refine Jp 13 21 (Jb 38 16383) rfl rfl ?_
 refine Jp 14 22 (Jb 38 32767) rfl rfl ?_
 refine Jp 15 23 (Jb 38 65535) rfl rfl ?_
 refine Jp 16 24 (Jb 38 131071) rfl rfl ?_
 refine Jk 17 25 (Jb 38 262143) rfl rfl hHeld (.inl ⟨by rfl, by rintro w' ⟨s0, s1, s2, s3, s4⟩; go_simp; with_reducible rfl⟩) ?_
 refine Jp 18 26 (Jb 38 524287) rfl rfl ?_
 refine Jp 19 27 (Jb 38 1048575) rfl rfl ?_
 refine Jp 20 28 (Jb 38 2097151) rfl rfl ?_
 refine Jp 21 29 (Jb 38 4194303) rfl rfl ?_
 refine Jk 22 30 (Jb 38 8388607) rfl rfl hHeld (.inl ⟨by rfl, by rintro w' ⟨s0, s1, s2, s3, s4⟩; go_simp; with_reducible rfl⟩) ?_
 refine Jp 23 31 (Jb 38 16777215) rfl rfl ?_
 refine Jp 24 32 (Jb 38 33554431) rfl rfl ?_
 refine Jp 25 33 (Jb 38 67108863) rfl rfl ?_
 refine Jp 26 34 (Jb 38 134217727) rfl rfl ?_
 refine Jp 27 35 (Jb 38 268435455) rfl rfl ?_
 refine Jp 28 36 (Jb 38 536870911) rfl rfl ?_
 refine Jk 29 37 (Jb 38 1073741823) rfl rfl hHeld (.inl ⟨by rfl, by rintro w' ⟨s0, s1, s2, s3, s4⟩; go_simp; with_reducible rfl⟩) ?_
 refine Jp 30 38 (Jb 38 2147483647) rfl rfl ?_
 refine Jp 31 39 (Jb 38 4294967295) rfl rfl ?_
 refine one_ (i := 32) (N := some 40) (Jb 38 8589934591) rfl rfl (by kernel_rfl) (by decide) (fun K hK => ?_)
 refine goes_ Tryz.func85 (by kernel_rfl) rfl #[.pointer (some ⟨S.b, 0, none⟩), .int .i64 (IntKind.i64.wrap (IntKind.i64.wrap (IntKind.i64.wrap (IntKind.i64.wrap (IntKind.i64.wrap (x.m.page + 4) + IntKind.i64.wrap (2 * x.m.size)) + IntKind.i64.wrap (IntKind.i64.wrap (x.m.f0 - 1) * x.m.cols)) + x.m.f1) - 1))] (by rfl) rfl rfl (by (try simp only [List.map_toArray, List.map_cons, List.map_nil]); first | done | rfl) ?_
 refine HQ.out.mono ?_
 rintro e w1 ⟨rfl, hR1, hK1⟩
 refine ⟨_, rfl, ?_⟩
 have HR1 := jA hR1
 have HK1 := jA (HK0.out.trans hK1)
 refine hK.out _ _ ⟨(cellOf hR1.mach 14 (.int .i64 y.m.page) rfl).trans (by rw [HYM.out]), (cellOf hR1.mach 15 (.int .i64 y.m.size) rfl).trans (by rw [HYM.out]), (cellOf hR1.mach 19 (.int .i64 y.m.f0) rfl).trans (by rw [HYM.out]), (cellOf hR1.mach 22 (.int .i64 y.m.cols) rfl).trans (by rw [HYM.out]), (cellOf hR1.mach 20 (.int .i64 y.m.f1) rfl).trans (by rw [HYM.out])⟩ (fun hHeld => ?_)
 clear hK K hR1 hK1
 refine norm_ (a' := ?_) ?_ ?_; rotate_left; (show Act.put _ (some 40) _ = _; simp only [Act.put, Jq, Jr, Js]; rfl)
 refine Jp 33 7 (Jb 38 17179869183) rfl rfl ?_
 refine Jp 34 41 (Jb 38 34359738367) rfl rfl ?_
 refine Jp 35 42 (Jb 38 68719476735) rfl rfl ?_
 refine Jp 36 4 (Jb 38 137438953471) rfl rfl ?_
 refine Jp 37 5 (Jb 38 274877906943) rfl rfl ?_
 refine done_ (by kernel_rfl) ?_
 have c21 := cellOf HR1.out.mach 21 (.int .i64 y.m.f2) rfl
 clear b14 b15 b19 b22 b20
 go_wp2_with (first | (go_at_call 107; (refine (broken_calls _ S.b S.bsite S.bx y.m HR1.out.mach).mono ?_); rintro e w2 ⟨rfl, hm2, hO2⟩; have HR2 := jA (HR1.out.put hO2 hm2 rfl); have HO2 := jA hO2; clear hm2 hO2))
 (try simp only [Exit.inBlock, Exit.then])
 refine bodyPost_ret (results_none rfl _ _ _) rfl ?_
 have hk := HK1.out.trans (HO2.out.keep F)
 have hr := HR2.out
 rw [HYM.out] at hr
 exact ⟨rfl, HY.out.step hr hk rfl, hk.less KF_out⟩
theorem mask_high (F : Nat → Prop) (S : Sh) (w : World) (x : X) (now : Int) (bset : Nat) (C : Cst) (hy : Ry F S w x bset C) (hl : x.tr.length < 1000000000000) (h0 : lkE x.ws (maskA x.m) = 0) (v : Int) (hv : lkV x.ws (maskA x.m) = v) (hz : 16 < x.m.f2) :
  Calls Tryz.prog 142 #[.pointer (some ⟨S.b, 0, none⟩), .int .i64 now] w fun e w' => e = .returned (.tuple #[]) ∧ Ry F S w' { x.acc (maskA x.m) with m := brk x.m } bset C ∧ Keep (KF F S x.m.cache bset C) w w' := by
 have h := hy.rd
 have b14 := cellOf h.mach 14 (.int .i64 x.m.page) rfl
 have b15 := cellOf h.mach 15 (.int .i64 x.m.size) rfl
 have b19 := cellOf h.mach 19 (.int .i64 x.m.f0) rfl
 have b22 := cellOf h.mach 22 (.int .i64 x.m.cols) rfl
 have b20 := cellOf h.mach 20 (.int .i64 x.m.f1) rfl
 have hA : maskA x.m = (IntKind.i64.wrap (IntKind.i64.wrap (IntKind.i64.wrap (IntKind.i64.wrap (IntKind.i64.wrap (x.m.page + 4) + IntKind.i64.wrap (2 * x.m.size)) + IntKind.i64.wrap (IntKind.i64.wrap (x.m.f0 - 1) * x.m.cols)) + x.m.f1) - 1)) := by simp only [maskA, i64_w]
 have HK0 := jA (((Keep.refl F w).below (below_drew (Below.refl _ _))).less (G := Out F S.b) (fun k hk => hk.1))
 have HY := jA hy
 have HQ := jA (mload_ok F S w.drew x (maskA x.m) h.drew hl h0)
 rw [hv] at HQ
 obtain ⟨y, hyy⟩ : ∃ y, y = x.acc (maskA x.m) := ⟨_, rfl⟩
 have hym : y.m = x.m := by rw [hyy]; rfl
 rw [← hyy]
 rw [← hyy, hA] at HQ
 have HYM := jA hym
 have HYY := jA hyy
 rw [← hym] at hz
 clear h hl h0 hA hy hv hyy hym
 go_enter Tryz.func142, Tryz.ntmps142
 go_upto_region 0 with fail
 refine start_ (n := 38) (S := fun w' => w'.cell? ⟨S.b, 14, none⟩ = some (.int .i64 x.m.page) ∧ w'.cell? ⟨S.b, 15, none⟩ = some (.int .i64 x.m.size) ∧ w'.cell? ⟨S.b, 19, none⟩ = some (.int .i64 x.m.f0) ∧ w'.cell? ⟨S.b, 22, none⟩ = some (.int .i64 x.m.cols) ∧ w'.cell? ⟨S.b, 20, none⟩ = some (.int .i64 x.m.f1)) (ds := []) (Jb 38 0) (by kernel_rfl) rfl (by kernel_rfl) ⟨b14, b15, b19, b22, b20⟩ (fun hHeld => ?_)
 refine Jp 0 8 (Jb 38 1) rfl rfl ?_
 refine Jp 1 9 (Jb 38 3) rfl rfl ?_
 refine Jp 2 10 (Jb 38 7) rfl rfl ?_
 refine Jp 3 11 (Jb 38 15) rfl rfl ?_
 refine Jp 4 12 (Jb 38 31) rfl rfl ?_
 refine Jk 5 13 (Jb 38 63) rfl rfl hHeld (.inl ⟨by rfl, by rintro w' ⟨s0, s1, s2, s3, s4⟩; go_simp; with_reducible rfl⟩) ?_
 refine Jp 6 14 (Jb 38 127) rfl rfl ?_
 refine Jp 7 15 (Jb 38 255) rfl rfl ?_
 refine Jp 8 16 (Jb 38 511) rfl rfl ?_
 refine Jp 9 17 (Jb 38 1023) rfl rfl ?_
 refine Jk 10 18 (Jb 38 2047) rfl rfl hHeld (.inl ⟨by rfl, by rintro w' ⟨s0, s1, s2, s3, s4⟩; go_simp; with_reducible rfl⟩) ?_
 refine Jp 11 19 (Jb 38 4095) rfl rfl ?_
 refine Jp 12 20 (Jb 38 8191) rfl rfl ?_
 refine Jp 13 21 (Jb 38 16383) rfl rfl ?_
 refine Jp 14 22 (Jb 38 32767) rfl rfl ?_
 refine Jp 15 23 (Jb 38 65535) rfl rfl ?_
 refine Jp 16 24 (Jb 38 131071) rfl rfl ?_
 refine Jk 17 25 (Jb 38 262143) rfl rfl hHeld (.inl ⟨by rfl, by rintro w' ⟨s0, s1, s2, s3, s4⟩; go_simp; with_reducible rfl⟩) ?_
 refine Jp 18 26 (Jb 38 524287) rfl rfl ?_
 refine Jp 19 27 (Jb 38 1048575) rfl rfl ?_
 refine Jp 20 28 (Jb 38 2097151) rfl rfl ?_
 refine Jp 21 29 (Jb 38 4194303) rfl rfl ?_
 refine Jk 22 30 (Jb 38 8388607) rfl rfl hHeld (.inl ⟨by rfl, by rintro w' ⟨s0, s1, s2, s3, s4⟩; go_simp; with_reducible rfl⟩) ?_
 refine Jp 23 31 (Jb 38 16777215) rfl rfl ?_
 refine Jp 24 32 (Jb 38 33554431) rfl rfl ?_
 refine Jp 25 33 (Jb 38 67108863) rfl rfl ?_
 refine Jp 26 34 (Jb 38 134217727) rfl rfl ?_
 refine Jp 27 35 (Jb 38 268435455) rfl rfl ?_
 refine Jp 28 36 (Jb 38 536870911) rfl rfl ?_
 refine Jk 29 37 (Jb 38 1073741823) rfl rfl hHeld (.inl ⟨by rfl, by rintro w' ⟨s0, s1, s2, s3, s4⟩; go_simp; with_reducible rfl⟩) ?_
 refine Jp 30 38 (Jb 38 2147483647) rfl rfl ?_
 refine Jp 31 39 (Jb 38 4294967295) rfl rfl ?_
 refine one_ (i := 32) (N := some 40) (Jb 38 8589934591) rfl rfl (by kernel_rfl) (by decide) (fun K hK => ?_)
 refine goes_ Tryz.func85 (by kernel_rfl) rfl #[.pointer (some ⟨S.b, 0, none⟩), .int .i64 (IntKind.i64.wrap (IntKind.i64.wrap (IntKind.i64.wrap (IntKind.i64.wrap (IntKind.i64.wrap (x.m.page + 4) + IntKind.i64.wrap (2 * x.m.size)) + IntKind.i64.wrap (IntKind.i64.wrap (x.m.f0 - 1) * x.m.cols)) + x.m.f1) - 1))] (by rfl) rfl rfl (by (try simp only [List.map_toArray, List.map_cons, List.map_nil]); first | done | rfl) ?_
 refine HQ.out.mono ?_
 rintro e w1 ⟨rfl, hR1, hK1⟩
 refine ⟨_, rfl, ?_⟩
 have HR1 := jA hR1
 have HK1 := jA (HK0.out.trans hK1)
 refine hK.out _ _ ⟨(cellOf hR1.mach 14 (.int .i64 y.m.page) rfl).trans (by rw [HYM.out]), (cellOf hR1.mach 15 (.int .i64 y.m.size) rfl).trans (by rw [HYM.out]), (cellOf hR1.mach 19 (.int .i64 y.m.f0) rfl).trans (by rw [HYM.out]), (cellOf hR1.mach 22 (.int .i64 y.m.cols) rfl).trans (by rw [HYM.out]), (cellOf hR1.mach 20 (.int .i64 y.m.f1) rfl).trans (by rw [HYM.out])⟩ (fun hHeld => ?_)
 clear hK K hR1 hK1
 refine norm_ (a' := ?_) ?_ ?_; rotate_left; (show Act.put _ (some 40) _ = _; simp only [Act.put, Jq, Jr, Js]; rfl)
 refine Jp 33 7 (Jb 38 17179869183) rfl rfl ?_
 refine Jp 34 41 (Jb 38 34359738367) rfl rfl ?_
 refine Jp 35 42 (Jb 38 68719476735) rfl rfl ?_
 refine Jp 36 4 (Jb 38 137438953471) rfl rfl ?_
 refine Jp 37 5 (Jb 38 274877906943) rfl rfl ?_
 refine done_ (by kernel_rfl) ?_
 have c21 := cellOf HR1.out.mach 21 (.int .i64 y.m.f2) rfl
 clear b14 b15 b19 b22 b20
 go_wp2_with (first | (go_at_call 107; (refine (broken_calls _ S.b S.bsite S.bx y.m HR1.out.mach).mono ?_); rintro e w2 ⟨rfl, hm2, hO2⟩; have HR2 := jA (HR1.out.put hO2 hm2 rfl); have HO2 := jA hO2; clear hm2 hO2))
 (try simp only [Exit.inBlock, Exit.then])
 refine bodyPost_ret (results_none rfl _ _ _) rfl ?_
 have hk := HK1.out.trans (HO2.out.keep F)
 have hr := HR2.out
 rw [HYM.out] at hr
 exact ⟨rfl, HY.out.step hr hk rfl, hk.less KF_out⟩
theorem mask_fine (F : Nat → Prop) (S : Sh) (w : World) (x : X) (now : Int) (bset : Nat) (C : Cst) (hy : Ry F S w x bset C) (hl : x.tr.length < 1000000000000) (h0 : lkE x.ws (maskA x.m) = 0) (v : Int) (hv : lkV x.ws (maskA x.m) = v) (hz1 : 1 ≤ x.m.f2) (hz2 : x.m.f2 ≤ 16) (C' : Cst) (al : Bool) (hal : bitI v x.m.f2 = al) (hg : knownC S.flaw x.m al C = some C') :
  Calls Tryz.prog 142 #[.pointer (some ⟨S.b, 0, none⟩), .int .i64 now] w fun e w' => e = .returned (.tuple #[]) ∧ Ry F S w' { x.acc (maskA x.m) with m := knownM x.m al } bset C' ∧ Keep (KF F S x.m.cache bset C) w w' := by
 have h := hy.rd
 have b14 := cellOf h.mach 14 (.int .i64 x.m.page) rfl
 have b15 := cellOf h.mach 15 (.int .i64 x.m.size) rfl
 have b19 := cellOf h.mach 19 (.int .i64 x.m.f0) rfl
 have b22 := cellOf h.mach 22 (.int .i64 x.m.cols) rfl
 have b20 := cellOf h.mach 20 (.int .i64 x.m.f1) rfl
 have hA : maskA x.m = (IntKind.i64.wrap (IntKind.i64.wrap (IntKind.i64.wrap (IntKind.i64.wrap (IntKind.i64.wrap (x.m.page + 4) + IntKind.i64.wrap (2 * x.m.size)) + IntKind.i64.wrap (IntKind.i64.wrap (x.m.f0 - 1) * x.m.cols)) + x.m.f1) - 1)) := by simp only [maskA, i64_w]
 have HK0 := jA (((Keep.refl F w).below (below_drew (Below.refl _ _))).less (G := Out F S.b) (fun k hk => hk.1))
 have HY := jA hy
 have HQ := jA (mload_ok F S w.drew x (maskA x.m) h.drew hl h0)
 rw [hv] at HQ
 obtain ⟨y, hyy⟩ : ∃ y, y = x.acc (maskA x.m) := ⟨_, rfl⟩
 have hym : y.m = x.m := by rw [hyy]; rfl
 rw [← hyy]
 rw [← hyy, hA] at HQ
 have HYM := jA hym
 have HYY := jA hyy
 have HG := jA hg
 rw [← hym] at hz1 hz2 hal
 have HAL := jA hal
 clear hal hg
 clear h hl h0 hA hy hv hyy hym
 go_enter Tryz.func142, Tryz.ntmps142
 go_upto_region 0 with fail
 refine start_ (n := 38) (S := fun w' => w'.cell? ⟨S.b, 14, none⟩ = some (.int .i64 x.m.page) ∧ w'.cell? ⟨S.b, 15, none⟩ = some (.int .i64 x.m.size) ∧ w'.cell? ⟨S.b, 19, none⟩ = some (.int .i64 x.m.f0) ∧ w'.cell? ⟨S.b, 22, none⟩ = some (.int .i64 x.m.cols) ∧ w'.cell? ⟨S.b, 20, none⟩ = some (.int .i64 x.m.f1)) (ds := []) (Jb 38 0) (by kernel_rfl) rfl (by kernel_rfl) ⟨b14, b15, b19, b22, b20⟩ (fun hHeld => ?_)
 refine Jp 0 8 (Jb 38 1) rfl rfl ?_
 refine Jp 1 9 (Jb 38 3) rfl rfl ?_
 refine Jp 2 10 (Jb 38 7) rfl rfl ?_
 refine Jp 3 11 (Jb 38 15) rfl rfl ?_
 refine Jp 4 12 (Jb 38 31) rfl rfl ?_
 refine Jk 5 13 (Jb 38 63) rfl rfl hHeld (.inl ⟨by rfl, by rintro w' ⟨s0, s1, s2, s3, s4⟩; go_simp; with_reducible rfl⟩) ?_
 refine Jp 6 14 (Jb 38 127) rfl rfl ?_
 refine Jp 7 15 (Jb 38 255) rfl rfl ?_
 refine Jp 8 16 (Jb 38 511) rfl rfl ?_
 refine Jp 9 17 (Jb 38 1023) rfl rfl ?_
 refine Jk 10 18 (Jb 38 2047) rfl rfl hHeld (.inl ⟨by rfl, by rintro w' ⟨s0, s1, s2, s3, s4⟩; go_simp; with_reducible rfl⟩) ?_
 refine Jp 11 19 (Jb 38 4095) rfl rfl ?_
 refine Jp 12 20 (Jb 38 8191) rfl rfl ?_
 refine Jp 13 21 (Jb 38 16383) rfl rfl ?_
 refine Jp 14 22 (Jb 38 32767) rfl rfl ?_
 refine Jp 15 23 (Jb 38 65535) rfl rfl ?_
 refine Jp 16 24 (Jb 38 131071) rfl rfl ?_
 refine Jk 17 25 (Jb 38 262143) rfl rfl hHeld (.inl ⟨by rfl, by rintro w' ⟨s0, s1, s2, s3, s4⟩; go_simp; with_reducible rfl⟩) ?_
 refine Jp 18 26 (Jb 38 524287) rfl rfl ?_
 refine Jp 19 27 (Jb 38 1048575) rfl rfl ?_
 refine Jp 20 28 (Jb 38 2097151) rfl rfl ?_
 refine Jp 21 29 (Jb 38 4194303) rfl rfl ?_
 refine Jk 22 30 (Jb 38 8388607) rfl rfl hHeld (.inl ⟨by rfl, by rintro w' ⟨s0, s1, s2, s3, s4⟩; go_simp; with_reducible rfl⟩) ?_
 refine Jp 23 31 (Jb 38 16777215) rfl rfl ?_
 refine Jp 24 32 (Jb 38 33554431) rfl rfl ?_
 refine Jp 25 33 (Jb 38 67108863) rfl rfl ?_
 refine Jp 26 34 (Jb 38 134217727) rfl rfl ?_
 refine Jp 27 35 (Jb 38 268435455) rfl rfl ?_
 refine Jp 28 36 (Jb 38 536870911) rfl rfl ?_
 refine Jk 29 37 (Jb 38 1073741823) rfl rfl hHeld (.inl ⟨by rfl, by rintro w' ⟨s0, s1, s2, s3, s4⟩; go_simp; with_reducible rfl⟩) ?_
 refine Jp 30 38 (Jb 38 2147483647) rfl rfl ?_
 refine Jp 31 39 (Jb 38 4294967295) rfl rfl ?_
 refine one_ (i := 32) (N := some 40) (Jb 38 8589934591) rfl rfl (by kernel_rfl) (by decide) (fun K hK => ?_)
 refine goes_ Tryz.func85 (by kernel_rfl) rfl #[.pointer (some ⟨S.b, 0, none⟩), .int .i64 (IntKind.i64.wrap (IntKind.i64.wrap (IntKind.i64.wrap (IntKind.i64.wrap (IntKind.i64.wrap (x.m.page + 4) + IntKind.i64.wrap (2 * x.m.size)) + IntKind.i64.wrap (IntKind.i64.wrap (x.m.f0 - 1) * x.m.cols)) + x.m.f1) - 1))] (by rfl) rfl rfl (by (try simp only [List.map_toArray, List.map_cons, List.map_nil]); first | done | rfl) ?_
 refine HQ.out.mono ?_
 rintro e w1 ⟨rfl, hR1, hK1⟩
 refine ⟨_, rfl, ?_⟩
 have HR1 := jA hR1
 have HK1 := jA (HK0.out.trans hK1)
 refine hK.out _ _ ⟨(cellOf hR1.mach 14 (.int .i64 y.m.page) rfl).trans (by rw [HYM.out]), (cellOf hR1.mach 15 (.int .i64 y.m.size) rfl).trans (by rw [HYM.out]), (cellOf hR1.mach 19 (.int .i64 y.m.f0) rfl).trans (by rw [HYM.out]), (cellOf hR1.mach 22 (.int .i64 y.m.cols) rfl).trans (by rw [HYM.out]), (cellOf hR1.mach 20 (.int .i64 y.m.f1) rfl).trans (by rw [HYM.out])⟩ (fun hHeld => ?_)
 clear hK K hR1 hK1
 refine norm_ (a' := ?_) ?_ ?_; rotate_left; (show Act.put _ (some 40) _ = _; simp only [Act.put, Jq, Jr, Js]; rfl)
 refine Jp 33 7 (Jb 38 17179869183) rfl rfl ?_
 refine Jp 34 41 (Jb 38 34359738367) rfl rfl ?_
 refine Jp 35 42 (Jb 38 68719476735) rfl rfl ?_
 refine Jp 36 4 (Jb 38 137438953471) rfl rfl ?_
 refine Jp 37 5 (Jb 38 274877906943) rfl rfl ?_
 refine done_ (by kernel_rfl) ?_
 have c21 := cellOf HR1.out.mach 21 (.int .i64 y.m.f2) rfl
 clear b14 b15 b19 b22 b20
 obtain ⟨z, hzz⟩ : ∃ z, z = y.m.f2 := ⟨_, rfl⟩
 rw [← hzz] at c21 hz1 hz2 HAL
 have HZZ := jA hzz
 clear hzz
 go_wp2_with (first | (go_at_call 134; (refine (show Calls Tryz.prog 134 #[.pointer (some ⟨S.b, 0, none⟩), .bool (bitI v z)] w1 _ from (by rw [HAL.out]; exact known_calls F S w1 y al bset C C' (HY.out.step HR1.out HK1.out (by rw [HYM.out])) (by rw [HYM.out]; exact HG.out))).mono ?_); rintro e w5 ⟨rfl, hR5, hK5⟩; have HR5 := jA hR5; have HK5 := jA hK5; clear hR5 hK5))
 go_end0
 have hr := HR5.out
 have hk := HK5.out
 rw [HYM.out] at hr hk
 exact ⟨rfl, hr, (HK1.out.less KF_out).trans hk⟩
def maskS (flaw : Int) (x : X) (C : Cst) : Option (X × Cst) :=
 if lkE x.ws (maskA x.m) = 0 then
  if x.m.f2 < 1 ∨ 16 < x.m.f2 then some ({ x.acc (maskA x.m) with m := brk x.m }, C)
  else (knownC flaw x.m (bitI (lkV x.ws (maskA x.m)) x.m.f2) C).map fun C' => ({ x.acc (maskA x.m) with m := knownM x.m (bitI (lkV x.ws (maskA x.m)) x.m.f2) }, C')
 else some ({ x.acc (maskA x.m) with m := brk x.m }, C)
theorem mask_calls (F : Nat → Prop) (S : Sh) (w : World) (x : X) (now : Int) (bset : Nat) (C : Cst) (hy : Ry F S w x bset C) (hl : x.tr.length < 1000000000000) (x' : X) (C' : Cst) (hs : maskS S.flaw x C = some (x', C')) :
  Calls Tryz.prog 142 #[.pointer (some ⟨S.b, 0, none⟩), .int .i64 now] w fun e w' => e = .returned (.tuple #[]) ∧ Ry F S w' x' bset C' ∧ Keep (KF F S x.m.cache bset C) w w' := by
 unfold maskS at hs
 split at hs
 ·rename_i h0
  split at hs
  ·rename_i hz
   cases hs
   rcases hz with hz | hz
   ·exact mask_low F S w x now bset C hy hl h0 _ rfl hz
   ·exact mask_high F S w x now bset C hy hl h0 _ rfl hz
  ·rename_i hz
   obtain ⟨C1, h1, h2⟩ := Option.map_eq_some_iff.1 hs
   cases h2
   exact mask_fine F S w x now bset C hy hl h0 _ rfl (by omega) (by omega) _ _ rfl h1
 ·rename_i h0
  cases hs
  exact mask_bad F S w x now bset C hy hl h0
theorem look_calls (F : Nat → Prop) (S : Sh) (w : World) (x : X) (now : Int) (bset : Nat) (C : Cst) (hy : Ry F S w x bset C) (hl : x.tr.length < 1000000000000) (hk : x.m.kind = 0 ∨ x.m.kind = 1 ∨ x.m.kind = 2) (hz : 2 ≤ x.m.size) (x' : X) (C' : Cst) (hs : lookS S.flaw x C = some (x', C')) :
  Calls Tryz.prog 127 #[.pointer (some ⟨S.b, 0, none⟩), .int .i64 now] w fun e w' => e = .returned (.tuple #[]) ∧ Ry F S w' x' bset C' ∧ Keep (KF F S x.m.cache bset C) w w' := by
 unfold lookS at hs
 split at hs
 ·rename_i h0
  split at hs
  ·rename_i hv
   cases hs
   exact look_found F S w x now bset C hy hl h0 _ rfl hk hv
  ·rename_i hv
   split at hs
   ·rename_i hq
    obtain ⟨C1, h1, h2⟩ := Option.map_eq_some_iff.1 hs
    cases h2
    by_cases h3 : lkV x.ws (slotA 4 x.m) = 0
    ·exact look_zero F S w x now bset C hy hl h0 _ rfl hk hv hz _ h1 h3
    ·exact look_full F S w x now bset C hy hl h0 _ rfl hk hv hz _ h1 h3 (hq.resolve_left h3)
   ·rename_i hq
    cases hs
    exact look_next F S w x now bset C hy hl h0 _ rfl hk hv hz (fun h => hq (.inl h)) (fun h => hq (.inr h))
 ·rename_i h0
  cases hs
  exact look_bad F S w x now bset C hy hl h0
end Go.Proofs.YtdgkppldopiaoaaGreat.RMask
/- cells.Memory.Trace, reader.Machine.Answer, walked. -/
namespace Go.Proofs.YtdgkppldopiaoaaGreat.RTrace
open Go.RowKit YtdgkppldopiaoaaGreatW.PrintWords YtdgkppldopiaoaaGreatW.PrintLast YtdgkppldopiaoaaGreatW.PrintMore BMap BRow GDiffer MLines MPol MPut RMem RCells REpoch RMach RCput Go.Maps
open PG
set_option maxHeartbeats 1000000
set_option maxRecDepth 100000
theorem clone_calls (A : Option Addr) (c : Nat) (l : List S115) (w : World) (hC : Kd.C k115 w A l.length l) (hl : l.length ≤ 1000000000000) :
  Calls Tryz.prog 40 #[.slice A l.length c] w fun e w' => ∃ A1 c1, e = .returned (.slice A1 l.length c1) ∧ Below w.heap.size w w' := by
 have HC := jA hC
 have HL := jA hl
 have hmax : l.length ≤ 9223372036854775807 := hC.2.1
 clear hC hl
 cases A with
 | none =>
  have h0 : l = [] := by
   have := HC.out.2.2
   cases l with
   | nil => rfl
   | cons x r => obtain ⟨ad, h, _⟩ := this (by simp); cases h
  subst h0
  have he := fun w : World => Lib.run_eql_slice_nil (P := Tryz.prog) w 53 115 none 0 c 0 0 Tryz.underlying53
  go_enter Tryz.func40, Tryz.ntmps40
  go_wp2
  go_ret
  exact ⟨_, _, rfl, Below.refl _ _⟩
 | some ad =>
  have he := fun w : World => Lib.run_eql_slice_nil (P := Tryz.prog) w 53 115 (some ad) l.length c 0 0 Tryz.underlying53
  go_enter Tryz.func40, Tryz.ntmps40
  go_upto_region 3 with fail
  clear he
  have hlim : ((([] : List S115)).length + l.length) * 40 ≤ 140737488355328 := by have := HL.out; simp; omega
  have HLIM := jA hlim
  clear hlim
  have hR5 : Kd.R k115 115 (w.alloc (.cells #[] 115)) w.heap.size (fun _ => True) (.slice (some ⟨w.heap.size, 0, none⟩) 0 0) [] := ⟨fun _ _ => trivial, [], by
   have h2 := World.ownsRow_lit (base := w.heap.size) (e := 115) (size := 5) w #[] 0 (Nat.le_refl _) (by decide) rfl
   exact h2, ⟨rfl, fun j p h => by simp at h⟩⟩
  have HR5 := jA hR5
  have HB5 := jA (below_alloc (Below.refl _ w) (.cells #[] 115))
  clear hR5
  go_wp2_with (first | ((with_reducible refine gate_builtin (b := .append) (xs := #[.tmp 5, .tmp 6]) rfl ?_); at_builtin; refine Kd.R_append_rows k115 (Rr := k115.K (w.alloc (.cells #[] 115))) (w0 := w) w.heap.size rfl (.tmp 5) (.tmp 6) 53 115 (.agg #[(.int .i8 0), (.int .i64 0), (.int .i64 0), (.int .i64 0), (.bool false)]) 40 rfl Tryz.underlying53 RCells.info115 rfl (by decide) (by decide) (.slice (some ⟨w.heap.size, 0, none⟩) 0 0) [] l (some ad) l.length c (fun _ => True) (fun _ => False) rfl rfl HR5.out (Kd.C_below HC.out HB5.out) (fun x cs h => by obtain rfl := k115_open h; exact k115_mkM _ _ _ x) (fun _ hk => hk.elim) (fun _ _ => trivial) HB5.out HB5.out.size HLIM.out ?_; intro v7 w7 hR7 hB7 hg7 hat7; have HR7 := jA hR7; have HB7 := jA hB7; clear hR7 hB7 hg7 hat7))
  obtain ⟨A7, c7, rfl⟩ := Kd.R_slice HR7.out
  go_ret
  exact ⟨_, _, rfl, HB7.out⟩
theorem trace_calls (F : Nat → Prop) (w : World) (bm bw : Nat) (ws : List Int) (tr : List S115) (bad : Int) (tv : Value) (hM : Mem F w bm bw ws tr bad tv) (hl : tr.length ≤ 1000000000000) :
  Calls Tryz.prog 12 #[.pointer (some ⟨bm, 0, none⟩)] w fun e w' => ∃ A1 c1, e = .returned (.slice A1 tr.length c1) ∧ Below w.heap.size w w' := by
 obtain ⟨A, c, rfl, _, hC⟩ := Kd.R_reads hM.row
 have c1 := hM.cell1
 have HQ := jA (clone_calls A c tr w hC hl)
 clear hM hC hl
 go_enter Tryz.func12, Tryz.ntmps12
 go_wp2_with (first | (go_at_call 40; (refine HQ.out.mono ?_); rintro e w1 ⟨A1, c1, rfl, hb1⟩; have HB := jA hb1; clear hb1))
 go_ret
 exact ⟨_, _, rfl, HB.out⟩
theorem info71 : (Tryz.prog.info? 71).map (·.size) = some 5 := by kernel_rfl
def ansV (m : Mst) : Array Value := #[.bool m.al, .bool m.hit, .bool m.br, .int .i64 m.ver, .int .i64 m.page]
theorem answer_calls (w : World) (b bsite bx : Nat) (m : Mst) (hm : MachAt w b bsite bx m) :
  Calls Tryz.prog 21 #[.pointer (some ⟨b, 0, none⟩)] w fun e w' => e = .returned (.agg (ansV m)) ∧ Below w.heap.size w w' := by
 have hb : b < w.heap.size := (Array.getElem?_eq_some_iff.1 hm).1
 have hc : ∀ (j : Nat) (v : Value), (ansV m).toList[j]? = some v → (w.alloc (.cells #[.bool false, .bool false, .bool false, .int .i64 0, .int .i64 0] 71)).cell? ((⟨b, 10, none⟩ : Addr).add j) = some v := by
  have hm1 : MachAt (w.alloc (.cells #[.bool false, .bool false, .bool false, .int .i64 0, .int .i64 0] 71)) b bsite bx m := (Below.heap_alloc _ _ _ hb).trans hm
  intro j v hj
  have hj5 : j < 5 := by have := (List.getElem?_eq_some_iff.1 hj).1; simpa [ansV] using this
  rcases (by omega : j = 0 ∨ j = 1 ∨ j = 2 ∨ j = 3 ∨ j = 4) with rfl | rfl | rfl | rfl | rfl
  ·cases hj; exact cellOf hm1 10 _ rfl
  ·cases hj; exact cellOf hm1 11 _ rfl
  ·cases hj; exact cellOf hm1 12 _ rfl
  ·cases hj; exact cellOf hm1 13 _ rfl
  ·cases hj; exact cellOf hm1 14 _ rfl
 have HC := jA hc
 have HI := jA (show (Tryz.prog.info? 71).map (·.size) = some (ansV m).toList.length from info71)
 have HJ := jA (show (Tryz.prog.info? 71).map (·.size) = some (ansV m).size from info71)
 have HO := jA (show (ansV m).all (·.oneCell') = true by rw [Array.all_eq_true_iff_forall_mem]; intro v hv; simp [ansV] at hv; rcases hv with rfl | rfl | rfl | rfl | rfl <;> rfl)
 have hn := heap_alloc_new w (.cells #[.bool false, .bool false, .bool false, .int .i64 0, .int .i64 0] 71)
 have HN := jA hn
 clear hc hm hn
 go_enter Tryz.func21, Tryz.ntmps21
 go_wp2_with (first | ((with_reducible refine gate_dst (N := 6) rfl ?_); refine wpList_load_at rfl 71 (.tmp 5) rfl ⟨b, 10, none⟩ ?hx (ansV m).toList HC.out _ Tryz.underlying71 rfl HI.out ?_; (case hx => rfl)) | ((with_reducible refine gate_store (t := 71) (p := 2) (v := .tmp 6) rfl ?_); refine wpList_store_var rfl 71 (.tmp 2) (.tmp 6) rfl w.heap.size (ansV m) ?hx ?hy HN.out rfl HJ.out HO.out ?_; (case hx => rfl); (case hy => rfl)))
 (try simp only [Exit.inBlock, Exit.then])
 have hres := setCells_var (vs := ansV m) HN.out rfl
 have hbel : Below w.heap.size w ((w.alloc (.cells #[.bool false, .bool false, .bool false, .int .i64 0, .int .i64 0] 71)).setCells w.heap.size 0 (ansV m).toList) := setCells_below (below_alloc (Below.refl _ _) _) (Nat.le_refl _) _
 refine bodyPost_ret (results_single rfl (.cell w.heap.size 71 (ansV m) (0, 0) _ rfl hres Tryz.underlying71 rfl HJ.out .nil)) rfl ?_
 exact ⟨rfl, hbel⟩
end Go.Proofs.YtdgkppldopiaoaaGreat.RTrace
