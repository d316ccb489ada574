/- Of this session's texts, what the row uses: MRel, CMasks, CClone, CSame, VPure2, GValid, VPure3, GValidMain, CCompile, CSays, ROne, PHx0. -/
import Derived.Test.YtdgkppldopiaoaaGreatZ2
import Derived.Test.YtdgkppldopiaoaaGreatZ4
import Derived.WalkSpells
import Derived.Test.YtdgkppldopiaoaaGreatZ3
import Derived.Deep.DeepCutAuto
import Derived.Test.YtdgkppldopiaoaaGreatProg
import Derived.Below
import Derived.Deep.Draws
import Derived.Deep.AppendLies
import Derived.Maps.AppendAt
import Derived.OwnWalk
import Derived.Laws.BytesArg
import Derived.Laws.MakeOwn
import Derived.Laws.OwnMore
import Derived.Deep.OwnRows
import Derived.Tactics
import Derived.Lib.ConvBytes
import Derived.Laws.Slices
import Derived.WalkKit
import Derived.KernelRfl
import Derived.RowKit3
import Derived.Deep.LoopGhost
import Derived.Deep.QuietTactic
import Derived.BigQuiet
import Derived.WideLaws
import Derived.Deep.CutBlock
import Derived.Deep.RegionHeld3
import Derived.Laws.Rows
import Derived.Lib.AppendStr
import Derived.ArgAppend
import Derived.Laws.IdiomCopy
import Derived.OrdersHeld
import Derived.Laws.BitsLemmas
import Derived.RowKit
import Derived.Test.YtdgkppldopiaoaaGreatZ1
set_option linter.unusedSimpArgs false
set_option linter.unusedVariables false
set_option maxHeartbeats 8000000
set_option maxRecDepth 100000
/- mean.Relation. -/
namespace Go.Proofs.YtdgkppldopiaoaaGreat.MPol
open Go.RowKit YtdgkppldopiaoaaGreatW.PrintWords YtdgkppldopiaoaaGreatW.PrintLast YtdgkppldopiaoaaGreatW.PrintMore BMap BRow MLines MPut MClose MConcat MStand MSide Go.Maps
open PG YtdgkppldopiaoaaGreatF
abbrev SD := ByteArray × Nat × Nat
def RS (x : SD) (cs : List Value) : Prop := cs = [.string x.1, .float .f64 x.2.1, .map (some x.2.2)]
theorem RS_mk (n : ByteArray) (t b : Nat) : RS (n, t, b) [.string n, .float .f64 t, .map (some b)] := rfl
theorem info222 : (Tryz.prog.info? 222).map (fun i => (i.zero, i.size, i.bytes)) = some (some (.agg #[.string ⟨#[]⟩, .float .f64 0, .map none]), 3, 32) := by kernel_rfl
structure Sides (w wr : World) (v : Value) (ps : List SD) (R : ByteArray → Nat → ByteArray → Prop) (T : ByteArray → Nat → Prop) : Prop where
 row : OwnRow RS 222 3 wr w.heap.size v ps
 sets : ∀ x ∈ ps, IsSet wr x.2.2 (R x.1 x.2.1)
 trust : ∀ x ∈ ps, T x.1 x.2.1
 below : Below w.heap.size w wr
theorem Sides.move {w wr w1 : World} {v : Value} {ps : List SD} {R : ByteArray → Nat → ByteArray → Prop} {T : ByteArray → Nat → Prop} (h : Sides w wr v ps R T) (hb : Below wr.heap.size wr w1) : Sides w w1 v ps R T :=
 ⟨h.row.below hb, fun x hx => (h.sets x hx).below hb, h.trust, below_then h.below h.below.size hb⟩
theorem set_ne {W : World} {b : Nat} {R : ByteArray → Prop} (h : IsSet W b R) {α : Type} {Rr : α → List Value → Prop} {e size base : Nat} {v : Value} {ps : List α} (ho : OwnRow Rr e size W base v ps) : some b ≠ v.ownBlock := by
 intro hk
 obtain ⟨f, n, hM, _⟩ := h
 obtain ⟨es, cl, l, h1, _⟩ := hM.out
 obtain ⟨inner, hown, _⟩ := ho
 obtain ⟨cells, hc⟩ := own_typed hown b hk.symm
 rw [h1] at hc
 cases hc
theorem set_grown {W W1 : World} {b : Nat} {R : ByteArray → Prop} (h : IsSet W b R) {row : Option Nat} (hg : W.grownBy W1 row) (hne : some b ≠ row) : IsSet W1 b R := by
 obtain ⟨f, n, hM, hf⟩ := h
 exact ⟨f, n, hM.grown hg hne, hf⟩
theorem Sides.put {w wr w1 : World} {v v1 : Value} {ps : List SD} {R : ByteArray → Nat → ByteArray → Prop} {T : ByteArray → Nat → Prop} {x : SD} (h : Sides w wr v ps R T) (hx : IsSet wr x.2.2 (R x.1 x.2.1)) (ht : T x.1 x.2.1) (hr : OwnRow RS 222 3 w1 w.heap.size v1 (ps ++ [x])) (hg : wr.grownBy w1 v.ownBlock) (hb : Below w.heap.size w w1) : Sides w w1 v1 (ps ++ [x]) R T where
 row := hr
 sets := fun y hy => by
  rcases List.mem_append.1 hy with hy | hy
  ·exact set_grown (h.sets y hy) hg (set_ne (h.sets y hy) h.row)
  ·rw [List.mem_singleton.1 hy]; exact set_grown hx hg (set_ne hx h.row)
 trust := fun y hy => by
  rcases List.mem_append.1 hy with hy | hy
  ·exact h.trust y hy
  ·rw [List.mem_singleton.1 hy]; exact ht
 below := hb
theorem trust_some {d : PolD} {s : ByteArray} (h : ∃ y ∈ d.subs, y.f0 = s) : ∃ tr, d.trust s = some tr := by
 unfold PolD.trust
 cases hf : d.subs.find? (fun x => decide (x.f0 = s)) with
 | none =>
  obtain ⟨y, hy, he⟩ := h
  have := List.find?_eq_none.1 hf y hy
  simp [he] at this
 | some y => exact ⟨y.f1, rfl⟩
theorem subject_go (p : Pol) (s : ByteArray) (w : World) (hp : p.In w) (hd : p.d.Ok) (hs : okS s) (tr : Nat) (ht : p.d.trust s = some tr) :
  Calls Tryz.prog 111 #[.agg p.cells, .string s] w fun e w' => ∃ b, e = .returned (.tuple #[.agg #[.string s, .float .f64 tr, .map (some b)], .bool true]) ∧ IsSet w' b (p.d.who s) ∧ Below w.heap.size w w' := by
 refine (subject_calls p s w hp hd hs).mono ?_
 rintro e w' ⟨v, rfl, hS, hb⟩
 rw [ht] at hS ⊢
 obtain ⟨b, rfl, hset⟩ := hS.1 rfl
 exact ⟨b, rfl, hset, hb⟩
theorem object_go (p : Pol) (o : ByteArray) (w : World) (hp : p.In w) (hd : p.d.Ok) (ho : okS o) (hin : o ∈ p.d.objs) :
  Calls Tryz.prog 113 #[.agg p.cells, .string o] w fun e w' => ∃ b, e = .returned (.tuple #[.agg #[.string o, .float .f64 0, .map (some b)], .bool true]) ∧ IsSet w' b (p.d.what o) ∧ Below w.heap.size w w' := by
 classical
 refine (object_calls p o w hp hd ho true (by simpa using hin)).mono ?_
 rintro e w' ⟨v, rfl, hS, hb⟩
 obtain ⟨b, rfl, hset⟩ := hS.1 rfl
 exact ⟨b, rfl, hset, hb⟩
open Classical in
theorem allowB_at {d : PolD} {s o a : ByteArray} {tr : Nat} (h1 : d.trust s = some tr) (h2 : o ∈ d.objs) (h3 : a ∈ d.acts) : d.allowB ⟨s, o, a⟩ = allowsF (d.rules.filter fun r => speaksB r (d.who s) (d.what o) tr) d.exc ⟨s, o, a⟩ := by
 unfold PolD.allowB PolD.speak
 simp only [h1, decide_eq_true h2, decide_eq_true h3, Option.isSome_some, Bool.true_and, Option.getD_some]
theorem z28v (w : World) : (zeroValue 89).run Tryz.prog w = .ok (.agg #[.string ⟨#[]⟩, .string ⟨#[]⟩, .string ⟨#[]⟩]) w := by kernel_rfl
theorem info89 : (Tryz.prog.info? 89).map (fun i => (i.zero, i.size, i.bytes)) = some (some (.agg #[.string ⟨#[]⟩, .string ⟨#[]⟩, .string ⟨#[]⟩]), 3, 48) := by kernel_rfl
theorem own_stays {α : Type} {d : Kd α} {e : Nat} {W W1 : World} {base : Nat} {ok : Nat → Prop} {v : Value} {xs : List α} (h : d.R e W base ok v xs) (hg : W.grownBy W1 v.ownBlock) {g t : Nat} {cs : Array Value} (hS : Stays W g cs t) (hne : e ≠ t) : Stays W1 g cs t := by
 obtain ⟨_, inner, hown, _⟩ := h
 exact (hg.block _ (Array.getElem?_eq_some_iff.1 hS).1 (own_ne hown hS hne)).trans hS
theorem own_other_row {α β : Type} {d : Kd α} {e e2 size Zr : Nat} {Rr : β → List Value → Prop} {W W1 : World} {base : Nat} {ok : Nat → Prop} {v v2 : Value} {xs : List α} {ys : List β} (h : d.R e W base ok v xs) (hg : W.grownBy W1 v.ownBlock) (h2 : OwnRow Rr e2 size W Zr v2 ys) (hne : e2 ≠ e) : OwnRow Rr e2 size W1 Zr v2 ys := by
 obtain ⟨_, inner, hown, _⟩ := h
 refine h2.other hg ?_
 cases hb : v2.ownBlock with
 | none => exact .inl rfl
 | some k =>
  refine .inr fun e => ?_
  obtain ⟨Z2, ZC, _⟩ := h2
  obtain ⟨c1, hc1⟩ := own_typed ZC k hb
  obtain ⟨c2, hc2⟩ := own_typed hown k e.symm
  rw [hc1] at hc2
  have := Option.some.inj hc2
  simp only [Obj.cells.injEq] at this
  exact hne this.2.1
theorem Relation_calls (p : Pol) (w : World) (hp : p.In w) (hd : p.d.Ok) (hs : p.d.subs.length ≤ 64) (ho : p.d.objs.length ≤ 64) (ha : p.d.acts.length ≤ 16) :
  Calls Tryz.prog 92 #[.agg p.cells] w fun e w' => ∃ v, e = .returned v ∧ ∃ L : List S89, Kd.R k89 89 w' w.heap.size (fun _ => True) v L ∧ (∀ t, t ∈ L ↔ ((∃ y ∈ p.d.subs, y.f0 = t.f0) ∧ p.d.allowB t = true)) ∧ L.length ≤ 65536 ∧ Below w.heap.size w w' := by
 obtain ⟨d, A0, c0, A1, c1, A2, c2, A3, c3, A4, c4, A5, c5, A6, c6, A7, c7, A8, c8, A9, c9, A10, c10⟩ := p
 have HP := jA hp
 have HD := jA hd
 have HS := jA hs
 have HO := jA ho
 have HA := jA ha
 have hmax : d.subs.length ≤ 64 := hs
 clear hp hd hs ho ha
 have Zs : Stays (w.alloc (.cells (Pol.cells (Pol.mk d A0 c0 A1 c1 A2 c2 A3 c3 A4 c4 A5 c5 A6 c6 A7 c7 A8 c8 A9 c9 A10 c10)) 82)) w.heap.size (Pol.cells (Pol.mk d A0 c0 A1 c1 A2 c2 A3 c3 A4 c4 A5 c5 A6 c6 A7 c7 A8 c8 A9 c9 A10 c10)) 82 := heap_alloc_new w _
 have HST := jA Zs
 have e1 := Zs.cell 1
 simp only [Pol.cells, Jt, Ju, Jv] at e1
 clear Zs
 unfold Pol.cells
 unfold Pol.cells at HST
 simp only [] at HST e1 ⊢
 go_enter Tryz.func92, Tryz.ntmps92
 have hz := z146
 go_wp2
 clear e1
 go_loopw [3, 26] (fun u3 u26 wr => ∃ (k : Nat) (ps : List SD), k ≤ d.subs.length ∧ u26 = .int .i64 k ∧ Aside0 (Sides w wr u3 ps (fun s _ => d.who s) (fun s tr => d.trust s = some tr)) ∧ Aside0 (Stays wr w.heap.size (Pol.cells (Pol.mk d A0 c0 A1 c1 A2 c2 A3 c3 A4 c4 A5 c5 A6 c6 A7 c7 A8 c8 A9 c9 A10 c10)) 82) ∧ Aside0 (∀ s, s ∈ ps.map (·.1) ↔ ∃ y ∈ d.subs.take k, y.f0 = s) ∧ Aside0 (ps.length ≤ k)) (fun _ u26 _ => d.subs.length - (intOf u26).toNat)
 case atStart => exact ⟨0, [], Nat.zero_le _, rfl, ⟨⟨OwnRow.none_ _ _ _ _ _, by simp, by simp, below_alloc (Below.refl _ _) _⟩⟩, HST, ⟨by simp⟩, ⟨Nat.le_refl _⟩⟩
 case round =>
  obtain ⟨k, ps, hk, rfl, HR, HB, HM, HL⟩ := hrel
  have hpin := HP.out.below HR.out.below
  by_cases hlt : k < d.subs.length
  ·obtain ⟨ad, e0, hx0, hx1⟩ := at_T146 hpin.h1 (k : Int) (by omega) (by simp only []; omega)
   have hget : rd_T146 d.subs (k : Int) = d.subs[k] := by simp [rd_T146, hlt]
   simp only [hget, Int.toNat_natCast] at hx0 hx1
   have e0 : A1 = some ad := e0
   subst e0
   have htk : d.subs.take (k + 1) = d.subs.take k ++ [d.subs[k]] := List.take_succ_eq_append_getElem hlt
   have hin : d.subs[k] ∈ d.subs := List.getElem_mem hlt
   have hat : ∀ j (h : j < d.subs.length), j ≤ k → d.subs[j].f0 = d.subs[k].f0 → j ≠ k → ∃ y ∈ d.subs.take k, y.f0 = d.subs[k].f0 := fun j h hjk he hne => ⟨d.subs[j], by
    have hj : j < (d.subs.take k).length := by rw [List.length_take]; omega
    have e : (d.subs.take k)[j] = d.subs[j] := List.getElem_take
    rw [← e]
    exact List.getElem_mem hj, he⟩
   have hik : ∃ h : k < d.subs.length, d.subs[k].f0 = d.subs[k].f0 := ⟨hlt, rfl⟩
   obtain ⟨x, hxx⟩ : ∃ x, x = d.subs[k] := ⟨_, rfl⟩
   have HXX := jA hxx
   rw [← hxx] at hx0 hx1 htk hin hat
   have HTK := jA htk
   have HIN := jA hin
   have HAT := jA hat
   have HPI := jA hpin
   have c0' : (k : Int) < d.subs.length := by omega
   have e1 := HB.out.cell 1
   simp only [Pol.cells, Jt, Ju, Jv] at e1
   have hcw : ∀ (j : Nat) (v : Value), ([.string x.f0, .float .f64 x.f1] : List Value)[j]? = some v → wr.cell? ((ad.add (k * 2)).add j) = some v := by
    intro j v hj
    have hj2 : j < 2 := (List.getElem?_eq_some_iff.1 hj).1
    have : j = 0 ∨ j = 1 := by omega
    rcases this with rfl | rfl
    ·obtain rfl : Value.string x.f0 = v := by simpa using hj
     rw [Addr.add_zero']; exact hx0
    ·obtain rfl : Value.float .f64 x.f1 = v := by simpa using hj
     rw [add_add, add_field _ _ 1 (by omega)]; exact hx1
   have HCW := jA hcw
   clear hx0 hx1 hget htk hin hat hxx hcw hpin hik
   go_upto_region 5 with (first | ((with_reducible refine gate_dst (N := 30) rfl ?_); refine wpList_load_at rfl 146 (.tmp 29) rfl (ad.add (k * 2)) ?hx [.string x.f0, .float .f64 x.f1] HCW.out _ Tryz.underlying146 rfl i54 ?_; (case hx => rfl)) | ((with_reducible refine gate_store (t := 146) (p := 6) (v := .tmp 30) rfl ?_); refine wpList_store_var rfl 146 (.tmp 6) (.tmp 30) rfl wr.heap.size #[.string x.f0, .float .f64 x.f1] ?hx ?hy (cs := #[.string ⟨#[]⟩, .float .f64 0]) (t := 146) (heap_alloc_new wr _) rfl i54 (by simp [Value.oneCell']) ?_; (case hx => rfl); (case hy => rfl)))
   (try simp only [Act.put])
   have hb2 : Below wr.heap.size wr ((wr.alloc (.cells #[.string ⟨#[]⟩, .float .f64 0] 146)).setCells wr.heap.size 0 [.string x.f0, .float .f64 x.f1]) := setCells_below (below_alloc (Below.refl _ _) _) (Nat.le_refl _) _
   have hS2 : Stays ((wr.alloc (.cells #[.string ⟨#[]⟩, .float .f64 0] 146)).setCells wr.heap.size 0 [.string x.f0, .float .f64 x.f1]) wr.heap.size #[.string x.f0, .float .f64 x.f1] 146 := setCells_var (vs := #[.string x.f0, .float .f64 x.f1]) (heap_alloc_new wr _) rfl
   have hR2 := HR.out.move hb2
   have hB2 := HB.out.below hb2
   have hP2 := HPI.out.below hb2
   obtain ⟨W2, hW2⟩ : ∃ W2, W2 = ((wr.alloc (.cells #[.string ⟨#[]⟩, .float .f64 0] 146)).setCells wr.heap.size 0 [.string x.f0, .float .f64 x.f1]) := ⟨_, rfl⟩
   obtain ⟨g6, hg6⟩ : ∃ g6, g6 = wr.heap.size := ⟨_, rfl⟩
   rw [← hW2] at hS2 hR2 hB2 hP2 ⊢
   rw [← hg6] at hS2 ⊢
   have e1 := hB2.cell 1
   simp only [Pol.cells, Jt, Ju, Jv] at e1
   have hg : W2.cell? ⟨g6, 0, none⟩ = some (.string x.f0) := hS2.cell 0
   have HG := jA hg
   have HS2 := jA hS2
   have HR2 := jA hR2
   have HB2 := jA hB2
   have HP2 := jA hP2
   clear hb2 hS2 hR2 hB2 hP2 hW2 hg6 hg
   go_upto_if 36 with (first | (go_at_call 109; (with_reducible refine (index_calls (some ad) c1 d.subs g6 x.f0 _ HP2.out.h1 HG.out k hlt (congrArg S146.f0 HXX.out).symm).mono ?_); rintro e w3 ⟨j, rfl, hjk, hjs, hjn, hb3⟩; have HJS := jA hjs; have HJN := jA hjn; have HS3 := jA (HS2.out.below hb3); have HR3 := jA (HR2.out.move hb3); have HB3 := jA (HB2.out.below hb3); have HP3 := jA (HP2.out.below hb3); clear hjs hjn hb3))
   have e1 := HB3.out.cell 1
   simp only [Pol.cells, Jt, Ju, Jv] at e1
   by_cases hje : j = k
   ·have hq : ((j : Int) == (k : Int)) = true := by rw [hje]; exact beq_self_eq_true _
    obtain ⟨tr, htr⟩ := trust_some (d := d) (s := x.f0) ⟨x, HIN.out, rfl⟩
    have HTR := jA htr
    have hlim : (ps.length + 1) * 32 ≤ 140737488355328 := by have := HL.out; omega
    have HLIM := jA hlim
    have x0 : w3.cell? ⟨g6, 0, none⟩ = some (.string x.f0) := HS3.out.cell 0
    have hxok := HD.out.subs x HIN.out
    have HXOK := jA hxok
    clear htr hlim hje hxok
    go_upto_region 7 with (first | ((with_reducible refine gate_dst (N := 38) rfl ?_); refine wpList_load_blk rfl 82 (.tmp 1) rfl w.heap.size ?hx #[.slice A0 d.acts.length c0, .slice (some ad) d.subs.length c1, .slice A2 d.roles.length c2, .slice A3 d.objs.length c3, .slice A4 d.grps.length c4, .slice A5 d.mem.length c5, .slice A6 d.inh.length c6, .slice A7 d.par.length c7, .slice A8 d.wit.length c8, .slice A9 d.rules.length c9, .slice A10 d.exc.length c10] 82 HB3.out _ Tryz.underlying82 rfl i39 ?_; (case hx => rfl)) | (go_at_call 111; (refine (subject_go _ x.f0 _ HP3.out HD.out HXOK.out tr HTR.out).mono ?_); rintro e w4 ⟨b, rfl, hset, hb4⟩; have HR4 := jA (HR3.out.move hb4); have HB4 := jA (HB3.out.below hb4); have HSET := jA hset; clear hset hb4) | ((with_reducible refine gate_dst (N := 7) rfl ?_); refine wpList_alloc_store rfl rfl 222 7 (.tmp 42) rfl rfl rfl noneV #[.string x.f0, .float .f64 tr, .map (some b)] _ (z222 _) rfl i95 rfl (by simp [Value.oneCell']) ?hy ?hp ?_; (case hy => rfl); (case hp => rfl)))
    (try simp only [Act.put])
    have hb5 := below_alloc (Below.refl _ w4) (.cells #[.string x.f0, .float .f64 tr, .map (some b)] 222)
    have hS5 : Stays (w4.alloc (.cells #[.string x.f0, .float .f64 tr, .map (some b)] 222)) w4.heap.size #[.string x.f0, .float .f64 tr, .map (some b)] 222 := heap_alloc_new w4 _
    have hR5 := HR4.out.move hb5
    have hB5 := HB4.out.below hb5
    have hT5 := HSET.out.below hb5
    obtain ⟨W5, hW5⟩ : ∃ W5, W5 = w4.alloc (.cells #[.string x.f0, .float .f64 tr, .map (some b)] 222) := ⟨_, rfl⟩
    obtain ⟨g7, hg7⟩ : ∃ g7, g7 = w4.heap.size := ⟨_, rfl⟩
    rw [← hW5] at hR5 hB5 hT5 hS5 ⊢
    rw [← hg7] at hS5 ⊢
    have HR5 := jA hR5
    have HB5 := jA hB5
    have ZD := jA hT5
    have HS5 := jA hS5
    clear hb5 hS5 hR5 hB5 hT5 hW5 hg7
    go_wp2_with (first | ((with_reducible refine gate_dst (N := 45) rfl ?_); refine wpList_load_blk rfl 222 (.tmp 7) rfl g7 ?hx #[.string x.f0, .float .f64 tr, .map (some b)] 222 HS5.out _ Tryz.underlying222 rfl i95 ?_; (case hx => rfl)) | ((with_reducible refine gate_builtin (b := .append) (xs := #[.tmp 44, .tmp 46]) rfl ?_); at_builtin; refine OwnRow.append (w0 := w) (R := RS) w.heap.size rfl (.tmp 44) (.tmp 46) 217 222 (.agg #[.string ⟨#[]⟩, .float .f64 0, .map none]) 3 32 rfl Tryz.underlying217 info222 rfl (by decide) (by decide) u3 ps (x.f0, tr, b) [.string x.f0, .float .f64 tr, .map (some b)] rfl rfl (RS_mk _ _ _) rfl (by simp [Value.oneCell']) HR5.out.row HR5.out.below HR5.out.below.size HLIM.out ?_; intro v8 w8 hR8 hB8 hg8 Zt; have HR8 := jA (HR5.out.put (x := (x.f0, tr, b)) ZD.out HTR.out hR8 hg8 hB8); have HB8 := jA (show Stays w8 w.heap.size _ 82 from (hg8.block _ (Array.getElem?_eq_some_iff.1 HB5.out).1 (HR5.out.row.ne_block HB5.out (by decide))).trans HB5.out); clear hR8 hB8 hg8 Zt))
    go_roundw
    case rel => exact ⟨k + 1, _, by omega, by go_num, HR8, HB8, ⟨fun s => by rw [List.map_append, List.mem_append, HM.out s, HTK.out]; simp [or_and_right, exists_or, eq_comm]⟩, ⟨by rw [List.length_append]; have := HL.out; simp; omega⟩⟩
    case measure => simp [intOf]; omega
   ·have hq : ((j : Int) == (k : Int)) = false := by
     rw [beq_eq_false_iff_ne]; omega
    obtain ⟨hjl, hjx⟩ := HJS.out
    have hall := HAT.out j hjl hjk hjx hje
    have HALL := jA hall
    clear hje hall hjx hjl
    go_wp2
    go_roundw
    case rel => exact ⟨k + 1, ps, by omega, by go_num, HR3, HB3, ⟨fun s => by
     rw [HM.out s, HTK.out]
     constructor
     ·rintro ⟨y, hy, rfl⟩; exact ⟨y, List.mem_append_left _ hy, rfl⟩
     ·rintro ⟨y, hy, rfl⟩
      rcases List.mem_append.1 hy with hy | hy
      ·exact ⟨y, hy, rfl⟩
      ·rw [List.mem_singleton.1 hy]; exact HALL.out⟩, ⟨Nat.le_succ_of_le HL.out⟩⟩
    case measure => simp [intOf]; omega
  ·have hkk : k = d.subs.length := by omega
   subst hkk
   have hM := HM.out
   rw [List.take_length] at hM
   have HM1 := jA hM
   obtain ⟨w1, hw1⟩ : ∃ w1, w1 = wr := ⟨_, rfl⟩
   subst hw1
   have HP1 := jA hpin
   have e3 := HB.out.cell 3
   simp only [Pol.cells, Jt, Ju, Jv] at e3
   clear hM hpin HM
   have holen : d.objs.length ≤ 8796093022207 := Nat.le_trans HO.out (by decide)
   go_upto_region 10 with (first | (go_at_call 112; (with_reducible refine (once_go A3 c3 d.objs _ HP1.out.h3 HP1.out.l3 holen).mono ?_); rintro e w2 ⟨v51, rfl, ZE, hb2⟩; obtain ⟨A51, c51, rfl, ZF, ZG⟩ := Kd.R_reads ZE; have ZH := jA ZG; have HR2 := jA (HR.out.move hb2); have HB2 := jA (HB.out.below hb2); have HP2 := jA (HP1.out.below hb2); clear ZE ZG hb2))
   obtain ⟨LO, hLO⟩ : ∃ LO, LO = MPut.putAll [] d.objs := ⟨_, rfl⟩
   have hLOm : ∀ o, o ∈ LO ↔ o ∈ d.objs := fun o => by rw [hLO, MPut.mem_putAll]; simp
   have hLOs : LO.length ≤ 64 := by rw [hLO]; exact Nat.le_trans (putAll_short [] d.objs) (by simpa using HO.out)
   rw [← hLO] at ZH ZF ⊢
   have HLOM := jA hLOm
   clear hLO hLOm ZF
   go_loopw [4, 53] (fun u4 u53 wr => ∃ (k2 : Nat) (ps2 : List SD), k2 ≤ LO.length ∧ u53 = .int .i64 k2 ∧ Aside0 (Sides w2 wr u4 ps2 (fun o _ => d.what o) (fun o tr => tr = 0 ∧ o ∈ d.objs)) ∧ Aside0 (ps2.map (·.1) = LO.take k2)) (fun _ u53 _ => LO.length - (intOf u53).toNat)
   case atStart => exact ⟨0, [], Nat.zero_le _, rfl, ⟨⟨OwnRow.none_ _ _ _ _ _, by simp, by simp, Below.refl _ _⟩⟩, ⟨by simp⟩⟩
   case round =>
    obtain ⟨k2, ps2, hk2, rfl, HW, HN2⟩ := hrel
    by_cases Zu : k2 < LO.length
    ·obtain ⟨ad, e0, hx⟩ := Kd.at_string ZH.out (k2 : Int) (by omega) (by omega)
     subst e0
     have hget : rdOf ByteArray.empty LO (k2 : Int) = LO[k2] := by simp [rdOf, Zu]
     simp only [hget, Int.toNat_natCast] at hx
     have htk : LO.take (k2 + 1) = LO.take k2 ++ [LO[k2]] := List.take_succ_eq_append_getElem Zu
     have hmem : LO[k2] ∈ d.objs := (HLOM.out _).1 (List.getElem_mem Zu)
     obtain ⟨x, hxx⟩ : ∃ x, x = LO[k2] := ⟨_, rfl⟩
     rw [← hxx] at hx htk hmem
     replace hx := pw_cell_below HW.out.below hx
     have ZI : ps2.length ≤ 64 := by
      have := congrArg List.length HN2.out
      rw [List.length_map, List.length_take] at this
      omega
     have HLIM := jA (show (ps2.length + 1) * 32 ≤ 140737488355328 by omega)
     have HTK := jA htk
     have HMEM := jA hmem
     have HXOK := jA (HD.out.objs x hmem)
     have HB4 := jA (HB2.out.below HW.out.below)
     have HP4 := jA (HP2.out.below HW.out.below)
     have c0' : (k2 : Int) < LO.length := by omega
     clear hget htk hmem hxx ZI
     go_upto_region 13 with (first | ((with_reducible refine gate_dst (N := 58) rfl ?_); refine wpList_load_blk rfl 82 (.tmp 1) rfl w.heap.size ?hx #[.slice A0 d.acts.length c0, .slice A1 d.subs.length c1, .slice A2 d.roles.length c2, .slice A3 d.objs.length c3, .slice A4 d.grps.length c4, .slice A5 d.mem.length c5, .slice A6 d.inh.length c6, .slice A7 d.par.length c7, .slice A8 d.wit.length c8, .slice A9 d.rules.length c9, .slice A10 d.exc.length c10] 82 HB4.out _ Tryz.underlying82 rfl i39 ?_; (case hx => rfl)) | (go_at_call 113; (refine (object_go _ x _ HP4.out HD.out HXOK.out HMEM.out).mono ?_); rintro e w5 ⟨b, rfl, hset, hb5⟩; have HW5 := jA (HW.out.move hb5); have HSET := jA hset; clear hset hb5) | ((with_reducible refine gate_dst (N := 11) rfl ?_); refine wpList_alloc_store rfl rfl 222 11 (.tmp 61) rfl rfl rfl noneV #[.string x, .float .f64 0, .map (some b)] _ (z222 _) rfl i95 rfl (by simp [Value.oneCell']) ?hy ?hp ?_; (case hy => rfl); (case hp => rfl)))
     (try simp only [Act.put])
     have hb6 := below_alloc (Below.refl _ w5) (.cells #[.string x, .float .f64 0, .map (some b)] 222)
     have hS6 : Stays (w5.alloc (.cells #[.string x, .float .f64 0, .map (some b)] 222)) w5.heap.size #[.string x, .float .f64 0, .map (some b)] 222 := heap_alloc_new w5 _
     have hW6 := HW5.out.move hb6
     have hT6 := HSET.out.below hb6
     obtain ⟨W6, hW6e⟩ : ∃ W6, W6 = w5.alloc (.cells #[.string x, .float .f64 0, .map (some b)] 222) := ⟨_, rfl⟩
     obtain ⟨g11, ZJ⟩ : ∃ g11, g11 = w5.heap.size := ⟨_, rfl⟩
     rw [← hW6e] at hS6 hW6 hT6 ⊢
     rw [← ZJ] at hS6 ⊢
     have HS6 := jA hS6
     have HW6 := jA hW6
     have HT6 := jA hT6
     clear hb6 hS6 hW6 hT6 hW6e ZJ
     go_wp2_with (first | ((with_reducible refine gate_dst (N := 64) rfl ?_); refine wpList_load_blk rfl 222 (.tmp 11) rfl g11 ?hx #[.string x, .float .f64 0, .map (some b)] 222 HS6.out _ Tryz.underlying222 rfl i95 ?_; (case hx => rfl)) | ((with_reducible refine gate_builtin (b := .append) (xs := #[.tmp 63, .tmp 65]) rfl ?_); at_builtin; refine OwnRow.append (w0 := w2) (R := RS) w2.heap.size rfl (.tmp 63) (.tmp 65) 217 222 (.agg #[.string ⟨#[]⟩, .float .f64 0, .map none]) 3 32 rfl Tryz.underlying217 info222 rfl (by decide) (by decide) u4 ps2 (x, 0, b) [.string x, .float .f64 0, .map (some b)] rfl rfl (RS_mk _ _ _) rfl (by simp [Value.oneCell']) HW6.out.row HW6.out.below HW6.out.below.size HLIM.out ?_; intro v8 w8 hR8 hB8 hg8 Zt; have HW8 := jA (HW6.out.put (x := (x, 0, b)) HT6.out ⟨rfl, HMEM.out⟩ hR8 hg8 hB8); clear hR8 hB8 hg8 Zt))
     go_roundw
     case rel => exact ⟨k2 + 1, _, by omega, by go_num, HW8, ⟨by rw [List.map_append, HN2.out, HTK.out]; rfl⟩⟩
     case measure => simp [intOf]; omega
    ·have Z3 : k2 = LO.length := by omega
     subst Z3
     have hN2 := HN2.out
     rw [List.take_length] at hN2
     have HNW := jA hN2
     obtain ⟨w3, hw3⟩ : ∃ w3, w3 = wr := ⟨_, rfl⟩
     subst hw3
     have HP3 := jA (HP2.out.below HW.out.below)
     have HR3 := jA (HR2.out.move HW.out.below)
     have HB3 := jA (HB2.out.below HW.out.below)
     have e0 := HB3.out.cell 0
     simp only [Pol.cells, List.getElem?_toArray, List.getElem?_cons_zero] at e0
     clear hN2 HN2
     have halen : d.acts.length ≤ 8796093022207 := Nat.le_trans HA.out (by decide)
     go_upto_region 16 with (first | (go_at_call 112; (with_reducible refine (once_go A0 c0 d.acts _ HP3.out.h0 HP3.out.l0 halen).mono ?_); rintro e w4 ⟨v70, rfl, ZK, hb4⟩; obtain ⟨A70, c70, rfl, ZL, ZM⟩ := Kd.R_reads ZK; have ZN := jA ZM; have HW4 := jA (HW.out.move hb4); have HR4 := jA (HR3.out.move hb4); have HB4 := jA (HB3.out.below hb4); have HP4 := jA (HP3.out.below hb4); clear ZK ZM hb4))
     obtain ⟨LA, hLA⟩ : ∃ LA, LA = MPut.putAll [] d.acts := ⟨_, rfl⟩
     have hLAm : ∀ o, o ∈ LA ↔ o ∈ d.acts := fun o => by rw [hLA, MPut.mem_putAll]; simp
     have hLAs : LA.length ≤ 16 := by rw [hLA]; exact Nat.le_trans (putAll_short [] d.acts) (by simpa using HA.out)
     rw [← hLA] at ZN ZL ⊢
     have HLAM := jA hLAm
     clear hLA hLAm ZL e0
     obtain ⟨Ax, cx, e3x, hlx, hRx⟩ := HR4.out.row.reads
     obtain ⟨Ay, cy, e4y, hly, hRy⟩ := HW4.out.row.reads
     subst e3x
     subst e4y
     have hps : ps.length ≤ 64 := Nat.le_trans HL.out HS.out
     have Yh : ps2.length ≤ 64 := by
      have := congrArg List.length HNW.out
      rw [List.length_map] at this
      omega
     have HRX := jA hRx
     have HRY := jA hRy
     clear hlx hly hRx hRy
     go_wp2
     have hRSget : ∀ {A : Option Addr} {qs : List SD} {W : World} (h : ReadsRow RS 3 W A qs.length qs) (n : Nat) (hn : n < qs.length), ∃ ad, A = some ad ∧ ∀ j v, ([.string qs[n].1, .float .f64 qs[n].2.1, .map (some qs[n].2.2)] : List Value)[j]? = some v → W.cell? ((ad.add (n * 3)).add j) = some v := by
      intro A qs W h n hn
      obtain ⟨ad, cs, e, _, hR, hc⟩ := h.get_ (⟨#[]⟩, 0, 0) (n : Int) (by omega) (by omega)
      have hR : RS qs[n] cs := by
       have : qs.getD (n : Int).toNat (⟨#[]⟩, 0, 0) = qs[n] := by simp [hn]
       rw [← this]; exact hR
      refine ⟨ad, e, fun j v hv => ?_⟩
      rw [add_add]
      exact hc j v (by rw [hR]; exact hv)
     have HGET := jA @hRSget
     clear hRSget
     go_loopw [14, 73] (fun u14 u73 wr => ∃ (i : Nat) (L : List S89), i ≤ ps.length ∧ u73 = .int .i64 i ∧ Aside0 (Kd.R k89 89 wr w4.heap.size (fun _ => True) u14 L) ∧ Aside0 (Below w4.heap.size w4 wr) ∧ Aside0 (∀ t, t ∈ L ↔ Got d (ps.map (·.1)) LO LA i 0 0 t) ∧ Aside0 (L.length ≤ i * 1024)) (fun _ u73 _ => ps.length - (intOf u73).toNat)
     case atStart => exact ⟨0, [], Nat.zero_le _, rfl, ⟨Kd.R_nil _ _ _ _ _⟩, ⟨Below.refl _ _⟩, ⟨fun t => by simp [Got.start]⟩, ⟨by simp⟩⟩
     case round =>
      obtain ⟨i, L, hi, rfl, HL3, HB5, HG, HN3⟩ := hrel
      by_cases Zf : i < ps.length
      ·obtain ⟨adx, ex, hcx⟩ := HGET.out HRX.out i Zf
       subst ex
       have hxin := List.getElem_mem Zf
       have hxset := HR4.out.sets _ hxin
       have hxtr := HR4.out.trust _ hxin
       have hnm : (ps.map (·.1))[i]? = some ps[i].1 := by simp [Zf]
       obtain ⟨xs, hxs⟩ : ∃ xs, xs = ps[i] := ⟨_, rfl⟩
       rw [← hxs] at hcx hxset hxtr hnm
       have hcx' : ∀ j v, ([.string xs.1, .float .f64 xs.2.1, .map (some xs.2.2)] : List Value)[j]? = some v → wr.cell? ((adx.add (i * 3)).add j) = some v := fun j v hv => pw_cell_below HB5.out (hcx j v hv)
       have HCX := jA hcx'
       have HXSET := jA hxset
       have HXTR := jA hxtr
       have HNM := jA hnm
       have c03 : (i : Int) < ps.length := by omega
       clear hcx hcx' hxset hxtr hnm hxin hxs
       go_upto_region 20 with (first | ((with_reducible refine gate_dst (N := 76) rfl ?_); refine wpList_load_at rfl 222 (.tmp 75) rfl (adx.add (i * 3)) ?hx [.string xs.1, .float .f64 xs.2.1, .map (some xs.2.2)] HCX.out _ Tryz.underlying222 rfl i95 ?_; (case hx => rfl); refine wpList_alloc_store rfl rfl 222 16 (.tmp 76) rfl rfl rfl noneV #[.string xs.1, .float .f64 xs.2.1, .map (some xs.2.2)] _ (z222 _) rfl i95 rfl (by simp [Value.oneCell']) ?hy ?hp ?_; (case hy => rfl); (case hp => rfl)))
       (try simp only [Act.put])
       have hbS := below_alloc (Below.refl _ wr) (.cells #[.string xs.1, .float .f64 xs.2.1, .map (some xs.2.2)] 222)
       have hsS : Stays (wr.alloc (.cells #[.string xs.1, .float .f64 xs.2.1, .map (some xs.2.2)] 222)) wr.heap.size #[.string xs.1, .float .f64 xs.2.1, .map (some xs.2.2)] 222 := heap_alloc_new wr _
       have hL6 := Kd.R_below HL3.out hbS
       have hB6 := below_then HB5.out HB5.out.size hbS
       obtain ⟨W6, hW6e⟩ : ∃ W6, W6 = wr.alloc (.cells #[.string xs.1, .float .f64 xs.2.1, .map (some xs.2.2)] 222) := ⟨_, rfl⟩
       obtain ⟨g16, ZO⟩ : ∃ g16, g16 = wr.heap.size := ⟨_, rfl⟩
       rw [← hW6e] at hsS hL6 hB6 ⊢
       rw [← ZO] at hsS ⊢
       have HSX := jA hsS
       have HL6 := jA hL6
       have HB6 := jA hB6
       clear hbS hsS hL6 hB6 hW6e ZO
       go_wp2
       go_loopw [14, 79] (fun u14 u79 wr => ∃ (j : Nat) (L : List S89), j ≤ ps2.length ∧ u79 = .int .i64 j ∧ Aside0 (Kd.R k89 89 wr w4.heap.size (fun _ => True) u14 L) ∧ Aside0 (Below w4.heap.size w4 wr) ∧ Aside0 (Stays wr g16 #[.string xs.1, .float .f64 xs.2.1, .map (some xs.2.2)] 222) ∧ Aside0 (∀ t, t ∈ L ↔ Got d (ps.map (·.1)) LO LA i j 0 t) ∧ Aside0 (L.length ≤ i * 1024 + j * 16)) (fun _ u79 _ => ps2.length - (intOf u79).toNat)
       case atStart => exact ⟨0, L, Nat.zero_le _, rfl, HL6, HB6, HSX, HG, ⟨by have := HN3.out; omega⟩⟩
       case round =>
        obtain ⟨j, L2, hj, rfl, HL7, HB7, Z4, HG7, HN7⟩ := hrel
        by_cases Zv : j < ps2.length
        ·obtain ⟨ady, ey, hcy⟩ := HGET.out HRY.out j Zv
         subst ey
         have hyin := List.getElem_mem Zv
         have hyset := HW4.out.sets _ hyin
         have hytr := HW4.out.trust _ hyin
         have hon : LO[j]? = some ps2[j].1 := by rw [← HNW.out]; simp [Zv]
         obtain ⟨ys, hys⟩ : ∃ ys, ys = ps2[j] := ⟨_, rfl⟩
         rw [← hys] at hcy hyset hytr hon
         have hcy' : ∀ j v, ([.string ys.1, .float .f64 ys.2.1, .map (some ys.2.2)] : List Value)[j]? = some v → wr.cell? ((ady.add (j * 1)).add 0) = wr.cell? ((ady.add (j * 1)).add 0) := fun _ _ _ => rfl
         clear hcy'
         have HCY := jA (fun q v (hv : ([.string ys.1, .float .f64 ys.2.1, .map (some ys.2.2)] : List Value)[q]? = some v) => (pw_cell_below HB7.out (hcy q v hv) : wr.cell? ((ady.add (j * 3)).add q) = some v))
         have HYSET := jA hyset
         have HYTR := jA hytr
         have HON := jA hon
         have c04 : (j : Int) < ps2.length := by omega
         clear hcy hyset hytr hon hyin hys
         go_upto_region 23 with (first | ((with_reducible refine gate_dst (N := 82) rfl ?_); refine wpList_load_at rfl 222 (.tmp 81) rfl (ady.add (j * 3)) ?hx [.string ys.1, .float .f64 ys.2.1, .map (some ys.2.2)] HCY.out _ Tryz.underlying222 rfl i95 ?_; (case hx => rfl); refine wpList_alloc_store rfl rfl 222 18 (.tmp 82) rfl rfl rfl noneV #[.string ys.1, .float .f64 ys.2.1, .map (some ys.2.2)] _ (z222 _) rfl i95 rfl (by simp [Value.oneCell']) ?hy ?hp ?_; (case hy => rfl); (case hp => rfl)))
         (try simp only [Act.put])
         have hbS := below_alloc (Below.refl _ wr) (.cells #[.string ys.1, .float .f64 ys.2.1, .map (some ys.2.2)] 222)
         have hsS : Stays (wr.alloc (.cells #[.string ys.1, .float .f64 ys.2.1, .map (some ys.2.2)] 222)) wr.heap.size #[.string ys.1, .float .f64 ys.2.1, .map (some ys.2.2)] 222 := heap_alloc_new wr _
         have hL8 := Kd.R_below HL7.out hbS
         have hB8 := below_then HB7.out HB7.out.size hbS
         have hS8 := Z4.out.below hbS
         obtain ⟨W8, hW8e⟩ : ∃ W8, W8 = wr.alloc (.cells #[.string ys.1, .float .f64 ys.2.1, .map (some ys.2.2)] 222) := ⟨_, rfl⟩
         obtain ⟨g18, ZP⟩ : ∃ g18, g18 = wr.heap.size := ⟨_, rfl⟩
         rw [← hW8e] at hsS hL8 hB8 hS8 ⊢
         rw [← ZP] at hsS ⊢
         have HSY := jA hsS
         have HL8 := jA hL8
         have HB8 := jA hB8
         have ZQ := jA hS8
         have HP8 := jA (HP4.out.below hB8)
         have ZR := jA (HB4.out.below hB8)
         have HX8 := jA (HXSET.out.below hB8)
         have HY8 := jA (HYSET.out.below hB8)
         clear hbS hsS hL8 hB8 hS8 hW8e ZP
         go_upto_region 24 with (first | ((with_reducible refine gate_dst (N := 83) rfl ?_); refine wpList_load_blk rfl 82 (.tmp 1) rfl w.heap.size ?hx #[.slice A0 d.acts.length c0, .slice A1 d.subs.length c1, .slice A2 d.roles.length c2, .slice A3 d.objs.length c3, .slice A4 d.grps.length c4, .slice A5 d.mem.length c5, .slice A6 d.inh.length c6, .slice A7 d.par.length c7, .slice A8 d.wit.length c8, .slice A9 d.rules.length c9, .slice A10 d.exc.length c10] 82 ZR.out _ Tryz.underlying82 rfl i39 ?_; (case hx => rfl)) | ((with_reducible refine gate_dst (N := 84) rfl ?_); refine wpList_load_blk rfl 222 (.tmp 16) rfl g16 ?hx #[.string xs.1, .float .f64 xs.2.1, .map (some xs.2.2)] 222 ZQ.out _ Tryz.underlying222 rfl i95 ?_; (case hx => rfl)) | ((with_reducible refine gate_dst (N := 85) rfl ?_); refine wpList_load_blk rfl 222 (.tmp 18) rfl g18 ?hx #[.string ys.1, .float .f64 ys.2.1, .map (some ys.2.2)] 222 HSY.out _ Tryz.underlying222 rfl i95 ?_; (case hx => rfl)) | (go_at_call 114; (refine (about_own _ w4 xs.1 xs.2.1 xs.2.2 _ ys.1 ys.2.1 ys.2.2 _ _ HB8.out HP4.out HD.out HX8.out HY8.out).mono ?_); rintro e w9 ⟨v19, rfl, hRu, hb9⟩; have HRU := jA hRu; have HL9 := jA (Kd.R_below HL8.out hb9); have HB9 := jA (below_then HB8.out HB8.out.size hb9); have Z5 := jA (ZQ.out.below hb9); have Z6 := jA (HSY.out.below hb9); have Z7 := jA (ZR.out.below hb9); clear hRu hb9))
         obtain ⟨RU, hRUe⟩ : ∃ RU, RU = d.rules.filter fun r => speaksB r (d.who xs.1) (d.what ys.1) xs.2.1 := ⟨_, rfl⟩
         have hRU := HRU.out
         rw [← hRUe] at hRU
         have HRU := jA hRU
         obtain ⟨Ar, cr, er, hlr, _⟩ := hRU.reads
         subst er
         have hal : ∀ a, a ∈ d.acts → d.allowB ⟨xs.1, ys.1, a⟩ = allowsF RU d.exc ⟨xs.1, ys.1, a⟩ := fun a ha => by
          rw [hRUe]; exact allowB_at HXTR.out HYTR.out.2 ha
         have HAL := jA hal
         clear hRU hRUe hal hlr
         go_wp2
         go_loopw [14, 89] (fun u14 u89 wr => ∃ (l : Nat) (L : List S89), l ≤ LA.length ∧ u89 = .int .i64 l ∧ Aside0 (Kd.R k89 89 wr w4.heap.size (fun _ => True) u14 L) ∧ Aside0 (Below w4.heap.size w4 wr) ∧ Aside0 (OwnRow (k148.K w4) 148 6 wr W8.heap.size (.slice Ar RU.length cr) RU) ∧ Aside0 (Stays wr g16 #[.string xs.1, .float .f64 xs.2.1, .map (some xs.2.2)] 222) ∧ Aside0 (Stays wr g18 #[.string ys.1, .float .f64 ys.2.1, .map (some ys.2.2)] 222) ∧ Aside0 (Stays wr w.heap.size #[.slice A0 d.acts.length c0, .slice A1 d.subs.length c1, .slice A2 d.roles.length c2, .slice A3 d.objs.length c3, .slice A4 d.grps.length c4, .slice A5 d.mem.length c5, .slice A6 d.inh.length c6, .slice A7 d.par.length c7, .slice A8 d.wit.length c8, .slice A9 d.rules.length c9, .slice A10 d.exc.length c10] 82) ∧ Aside0 (∀ t, t ∈ L ↔ Got d (ps.map (·.1)) LO LA i j l t) ∧ Aside0 (L.length ≤ i * 1024 + j * 16 + l)) (fun _ u89 _ => LA.length - (intOf u89).toNat)
         case atStart => exact ⟨0, L2, Nat.zero_le _, rfl, HL9, HB9, HRU, Z5, Z6, Z7, HG7, ⟨HN7.out⟩⟩
         case round =>
          obtain ⟨l, L3, hl, rfl, ZS, Zk, Z8, Zw, ZT, ZU, Zx, Zg⟩ := hrel
          by_cases Zy : l < LA.length
          ·obtain ⟨ada, ea, hxa⟩ := Kd.at_string ZN.out (l : Int) (by omega) (by omega)
           subst ea
           have hget : rdOf ByteArray.empty LA (l : Int) = LA[l] := by simp [rdOf, Zy]
           simp only [hget, Int.toNat_natCast] at hxa
           have hain : LA[l] ∈ d.acts := (HLAM.out _).1 (List.getElem_mem Zy)
           have hjl : j < LO.length := by have := congrArg List.length HNW.out; rw [List.length_map] at this; omega
           have hil : i < (ps.map (·.1)).length := by rw [List.length_map]; exact Zf
           have e1i : (ps.map (·.1))[i] = xs.1 := by have := HNM.out; rw [List.getElem?_eq_getElem hil] at this; exact Option.some.inj this
           have e2j : LO[j] = ys.1 := by have := HON.out; rw [List.getElem?_eq_getElem hjl] at this; exact Option.some.inj this
           have hnext : ∀ t, Got d (ps.map (·.1)) LO LA i j (l + 1) t ↔ (Got d (ps.map (·.1)) LO LA i j l t ∨ (t = ⟨xs.1, ys.1, LA[l]⟩ ∧ d.allowB t = true)) := fun t => by
            have := Got.next (d := d) (t := t) hil hjl Zy
            rw [e1i, e2j] at this
            exact this
           obtain ⟨a, haa⟩ : ∃ a, a = LA[l] := ⟨_, rfl⟩
           rw [← haa] at hxa hain hnext
           have ya := pw_cell_below Zk.out hxa
           have hall := HAL.out a hain
           obtain ⟨q, hq⟩ : ∃ q, allowsF RU d.exc ⟨xs.1, ys.1, a⟩ = q := ⟨_, rfl⟩
           rw [hq] at hall
           have HQ := jA hq
           have HALL := jA hall
           have HNEXT := jA hnext
           have x16 : wr.cell? ⟨g16, 0, none⟩ = some (.string xs.1) := Zw.out.cell 0
           have y18 : wr.cell? ⟨g18, 0, none⟩ = some (.string ys.1) := ZT.out.cell 0
           have c05 : (l : Int) < LA.length := by omega
           clear hget hain hjl hil e1i e2j hnext haa hxa hall hq
           go_upto_region 28 with (first | ((with_reducible refine gate_dst (N := 22) rfl ?_); refine wpList_alloc_store rfl rfl 89 25 (.tmp 98) rfl rfl rfl #[.string ⟨#[]⟩, .string ⟨#[]⟩, .string ⟨#[]⟩] #[.string xs.1, .string ys.1, .string a] _ (z28v _) rfl i28 rfl (by simp [Value.oneCell']) ?hy ?hp ?_; (case hy => rfl); (case hp => rfl)))
           (try simp only [Act.put])
           have hb := below_alloc (Below.refl _ wr) (.cells #[.string xs.1, .string ys.1, .string a] 89)
           have Zl : Stays (wr.alloc (.cells #[.string xs.1, .string ys.1, .string a] 89)) wr.heap.size #[.string xs.1, .string ys.1, .string a] 89 := heap_alloc_new wr _
           have hL := Kd.R_below ZS.out hb
           have hB := below_then Zk.out Zk.out.size hb
           have hR := Z8.out.below hb
           have hX := Zw.out.below hb
           have hY := ZT.out.below hb
           have hBX := ZU.out.below hb
           obtain ⟨W11, ZV⟩ : ∃ W11, W11 = wr.alloc (.cells #[.string xs.1, .string ys.1, .string a] 89) := ⟨_, rfl⟩
           obtain ⟨g22, ZW⟩ : ∃ g22, g22 = wr.heap.size := ⟨_, rfl⟩
           rw [← ZV] at Zl hL hB hR hX hY hBX ⊢
           rw [← ZW] at Zl ⊢
           have Zc := jA Zl
           have Zm := jA hL
           have Zd := jA hB
           have Zh := jA hR
           have Zn := jA hX
           have Zo := jA hY
           have Za := jA hBX
           have Zp := jA (HP4.out.below hB)
           have HLIM := jA (show (L3.length + 1) * 48 ≤ 140737488355328 by have := Zg.out; omega)
           clear hb Zl hL hB hR hX hY hBX ZV ZW x16 y18 ya
           have hCr : Kd.C k148 W11 Ar RU.length RU := by
            obtain ⟨A', c', e', _, hr⟩ := Zh.out.reads
            obtain ⟨rfl, rfl⟩ : Ar = A' ∧ cr = c' := by simpa using e'
            exact hr.imp_ (Below.refl _ _) (fun p c hp => k148.K_below Zd.out hp)
           have HCR := jA hCr
           clear hCr
           cases q with
           | false =>
            have HGn := jA (fun t => (Zx.out t).trans ⟨fun h => (HNEXT.out t).2 (.inl h), fun h => ((HNEXT.out t).1 h).elim id (fun h2 => by rw [h2.1, HALL.out] at h2; exact absurd h2.2 (by simp))⟩ : ∀ t, t ∈ L3 ↔ Got d (ps.map (·.1)) LO LA i j (l + 1) t)
            by_cases hru : RU.length = 0
            ·have hz0 : decide ((0 : Int) < RU.length) = false := by rw [decide_eq_false_iff_not]; omega
             have hz1 : ¬ (0 : Int) < RU.length := by omega
             have hz2 : ¬ 0 < RU.length := by omega
             have HALLS := jA (And.intro Zm (And.intro Zd (And.intro Zh (And.intro Zn (And.intro Zo (And.intro Za HGn))))))
             clear hru Zm Zd Zh Zn Zo Za HGn
             go_wp2
             go_roundw
             case rel => obtain ⟨q1, q2, q3, q4, q5, q6, q7⟩ := HALLS.out; exact ⟨l + 1, L3, by omega, by go_num, q1, q2, q3, q4, q5, q6, q7, ⟨by have := Zg.out; omega⟩⟩
             case measure => simp [intOf]; omega
            ·have hz0 : (0 : Int) < RU.length := by omega
             clear hru
             have y0 : W11.cell? ⟨w.heap.size, 0, none⟩ = some (.slice A0 d.acts.length c0) := Za.out.cell 0
             have y1 : W11.cell? ⟨w.heap.size, 1, none⟩ = some (.slice A1 d.subs.length c1) := Za.out.cell 1
             have y2 : W11.cell? ⟨w.heap.size, 2, none⟩ = some (.slice A2 d.roles.length c2) := Za.out.cell 2
             have y3 : W11.cell? ⟨w.heap.size, 3, none⟩ = some (.slice A3 d.objs.length c3) := Za.out.cell 3
             have y4 : W11.cell? ⟨w.heap.size, 4, none⟩ = some (.slice A4 d.grps.length c4) := Za.out.cell 4
             have y5 : W11.cell? ⟨w.heap.size, 5, none⟩ = some (.slice A5 d.mem.length c5) := Za.out.cell 5
             have y6 : W11.cell? ⟨w.heap.size, 6, none⟩ = some (.slice A6 d.inh.length c6) := Za.out.cell 6
             have y7 : W11.cell? ⟨w.heap.size, 7, none⟩ = some (.slice A7 d.par.length c7) := Za.out.cell 7
             have y8 : W11.cell? ⟨w.heap.size, 8, none⟩ = some (.slice A8 d.wit.length c8) := Za.out.cell 8
             have y9 : W11.cell? ⟨w.heap.size, 9, none⟩ = some (.slice A9 d.rules.length c9) := Za.out.cell 9
             have y10 : W11.cell? ⟨w.heap.size, 10, none⟩ = some (.slice A10 d.exc.length c10) := Za.out.cell 10
             have z0 : W11.cell? ⟨g22, 0, none⟩ = some (.string xs.1) := Zc.out.cell 0
             have z1 : W11.cell? ⟨g22, 1, none⟩ = some (.string ys.1) := Zc.out.cell 1
             have z2 : W11.cell? ⟨g22, 2, none⟩ = some (.string a) := Zc.out.cell 2
             go_wp2_with (go_at_call 115; (refine (allows_calls (Pol.mk d A0 c0 A1 c1 A2 c2 A3 c3 A4 c4 A5 c5 A6 c6 A7 c7 A8 c8 A9 c9 A10 c10) Ar cr RU ⟨xs.1, ys.1, a⟩ _ HCR.out Zp.out.h10 Zp.out.l10 _ HQ.out).mono ?_); rintro e w12 ⟨rfl, Zb⟩; have Ze := jA (Kd.R_below Zm.out Zb); have Zq := jA (below_then Zd.out Zd.out.size Zb); have Zz := jA (Zh.out.below Zb); have ZA := jA (Zn.out.below Zb); have ZB := jA (Zo.out.below Zb); have Zi := jA (Za.out.below Zb); have ZX := jA (Zc.out.below Zb); clear Zb)
             go_roundw
             case rel => exact ⟨l + 1, L3, by omega, by go_num, Ze, Zq, Zz, ZA, ZB, Zi, HGn, ⟨by have := Zg.out; omega⟩⟩
             case measure => simp [intOf]; omega
           | true =>
            have hru : RU.length ≠ 0 := fun e => by
             have hnil : RU = [] := List.length_eq_zero_iff.1 e
             have hq2 := HQ.out
             rw [hnil, allowsF_iff] at hq2
             obtain ⟨⟨⟨r, hr, _⟩, _⟩, _⟩ := hq2
             simp at hr
            have hz0 : (0 : Int) < RU.length := by omega
            clear hru
            have y0 : W11.cell? ⟨w.heap.size, 0, none⟩ = some (.slice A0 d.acts.length c0) := Za.out.cell 0
            have y1 : W11.cell? ⟨w.heap.size, 1, none⟩ = some (.slice A1 d.subs.length c1) := Za.out.cell 1
            have y2 : W11.cell? ⟨w.heap.size, 2, none⟩ = some (.slice A2 d.roles.length c2) := Za.out.cell 2
            have y3 : W11.cell? ⟨w.heap.size, 3, none⟩ = some (.slice A3 d.objs.length c3) := Za.out.cell 3
            have y4 : W11.cell? ⟨w.heap.size, 4, none⟩ = some (.slice A4 d.grps.length c4) := Za.out.cell 4
            have y5 : W11.cell? ⟨w.heap.size, 5, none⟩ = some (.slice A5 d.mem.length c5) := Za.out.cell 5
            have y6 : W11.cell? ⟨w.heap.size, 6, none⟩ = some (.slice A6 d.inh.length c6) := Za.out.cell 6
            have y7 : W11.cell? ⟨w.heap.size, 7, none⟩ = some (.slice A7 d.par.length c7) := Za.out.cell 7
            have y8 : W11.cell? ⟨w.heap.size, 8, none⟩ = some (.slice A8 d.wit.length c8) := Za.out.cell 8
            have y9 : W11.cell? ⟨w.heap.size, 9, none⟩ = some (.slice A9 d.rules.length c9) := Za.out.cell 9
            have y10 : W11.cell? ⟨w.heap.size, 10, none⟩ = some (.slice A10 d.exc.length c10) := Za.out.cell 10
            have z0 : W11.cell? ⟨g22, 0, none⟩ = some (.string xs.1) := Zc.out.cell 0
            have z1 : W11.cell? ⟨g22, 1, none⟩ = some (.string ys.1) := Zc.out.cell 1
            have z2 : W11.cell? ⟨g22, 2, none⟩ = some (.string a) := Zc.out.cell 2
            go_upto_region 29 with (go_at_call 115; (refine (allows_calls (Pol.mk d A0 c0 A1 c1 A2 c2 A3 c3 A4 c4 A5 c5 A6 c6 A7 c7 A8 c8 A9 c9 A10 c10) Ar cr RU ⟨xs.1, ys.1, a⟩ _ HCR.out Zp.out.h10 Zp.out.l10 _ HQ.out).mono ?_); rintro e w12 ⟨rfl, Zb⟩; have Ze := jA (Kd.R_below Zm.out Zb); have Zq := jA (below_then Zd.out Zd.out.size Zb); have Zz := jA (Zh.out.below Zb); have ZA := jA (Zn.out.below Zb); have ZB := jA (Zo.out.below Zb); have Zi := jA (Za.out.below Zb); have ZX := jA (Zc.out.below Zb); clear Zb)
            clear y0 y1 y2 y3 y4 y5 y6 y7 y8 y9 y10 z0 z1 z2
            go_upto_region 30 with (first | ((with_reducible refine gate_dst (N := 109) rfl ?_); refine wpList_load_blk rfl 89 (.tmp 22) rfl g22 ?hx #[.string xs.1, .string ys.1, .string a] 89 ZX.out _ Tryz.underlying89 rfl i28 ?_; (case hx => rfl)) | (at_builtin; refine Kd.R_append k89 (w0 := w4) w4.heap.size rfl (.tmp 108) (.tmp 110) 80 89 (.agg #[.string ⟨#[]⟩, .string ⟨#[]⟩, .string ⟨#[]⟩]) 48 rfl Tryz.underlying80 info89 rfl (by decide) (by decide) u14 L3 ⟨xs.1, ys.1, a⟩ [.string xs.1, .string ys.1, .string a] (fun _ => True) (fun _ => False) rfl rfl (k89_mkM _ _ _ (⟨xs.1, ys.1, a⟩ : S89)) (fun _ hk => hk.elim) (fun _ _ => trivial) Ze.out Zq.out Zq.out.size HLIM.out ?_; intro v13 w13 ZY ZZ Zj Z0))
            have Z9 := jA (own_stays Ze.out Zj ZA.out (by decide))
            have Ya := jA (own_stays Ze.out Zj ZB.out (by decide))
            have Z1 := jA (own_stays Ze.out Zj Zi.out (by decide))
            have Yb := jA (own_other_row Ze.out Zj Zz.out (by decide))
            have Yc := jA ZY
            have Yd := jA ZZ
            have Ye := jA (fun t => by
             rw [List.mem_append, List.mem_singleton, HNEXT.out t, Zx.out t]
             constructor
             ·rintro (h | h)
              ·exact .inl h
              ·exact .inr ⟨h, by rw [h]; exact HALL.out⟩
             ·rintro (h | h)
              ·exact .inl h
              ·exact .inr h.1 : ∀ t, t ∈ L3 ++ [(⟨xs.1, ys.1, a⟩ : S89)] ↔ Got d (ps.map (·.1)) LO LA i j (l + 1) t)
            clear ZY ZZ Zj Z0
            go_wp2
            go_roundw
            case rel => exact ⟨l + 1, _, by omega, by go_num, Yc, Yd, Yb, Z9, Ya, Z1, Ye, ⟨by have := Zg.out; rw [List.length_append, List.length_singleton]; omega⟩⟩
            case measure => simp [intOf]; omega
          ·have hll : l = LA.length := by omega
           subst hll
           have Yf := jA (fun t => (Zx.out t).trans (Got.nextObj (by have := congrArg List.length HNW.out; rw [List.length_map] at this; omega)) : ∀ t, t ∈ L3 ↔ Got d (ps.map (·.1)) LO LA i (j + 1) 0 t)
           go_wp2
           go_roundw
           case rel => exact ⟨j + 1, L3, by omega, by go_num, ZS, Zk, Zw, Yf, ⟨by have := Zg.out; omega⟩⟩
           case measure => simp [intOf]; omega
        ·have hjj : j = ps2.length := by omega
         subst hjj
         have hLOl : LO.length = ps2.length := by have := congrArg List.length HNW.out; rw [List.length_map] at this; exact this.symm
         have HLOL := jA hLOl
         have Yg : (ps.map (·.1)).length = ps.length := List.length_map _
         have HG8 := jA (fun t => (HG7.out t).trans (by rw [← HLOL.out]; exact Got.nextSub (by rw [List.length_map]; exact Zf)) : ∀ t, t ∈ L2 ↔ Got d (ps.map (·.1)) LO LA (i + 1) 0 0 t)
         clear hLOl Yg
         go_wp2
         go_roundw
         case rel => exact ⟨i + 1, L2, by omega, by go_num, HL7, HB7, HG8, ⟨by have := HN7.out; omega⟩⟩
         case measure => simp [intOf]; omega
      ·have hii : i = ps.length := by omega
       subst hii
       have hfin : ∀ t, t ∈ L ↔ ((∃ y ∈ d.subs, y.f0 = t.f0) ∧ d.allowB t = true) := fun t => by
        have h1 := HG.out t
        have h0 := Got.all (d := d) (ns := ps.map (·.1)) (LO := LO) (LA := LA) (t := t)
        rw [List.length_map, HLOM.out, HLAM.out, HM1.out] at h0
        rw [h1, h0]
        constructor
        ·rintro ⟨h2, -, -, h5⟩; exact ⟨h5, h2⟩
        ·rintro ⟨h5, h2⟩
         refine ⟨h2, ?_, ?_, h5⟩
         ·unfold PolD.allowB at h2; simp only [Bool.and_eq_true, decide_eq_true_eq] at h2; exact h2.2.1
         ·unfold PolD.allowB at h2; simp only [Bool.and_eq_true, decide_eq_true_eq] at h2; exact h2.2.2.1
       have HFIN := jA hfin
       clear hfin
       go_wp2
       go_ret
       exact ⟨_, rfl, L, Kd.R_lower HL3.out (by have := HW4.out.below.size; have := HR4.out.below.size; omega), HFIN.out, by have := HN3.out; omega, below_then HR4.out.below HR4.out.below.size HB5.out⟩
end Go.Proofs.YtdgkppldopiaoaaGreat.MPol
/- graph.masks, walked. -/
namespace Go.Proofs.YtdgkppldopiaoaaGreat.CMasks
open Go.RowKit YtdgkppldopiaoaaGreatW.PrintWords YtdgkppldopiaoaaGreatW.PrintLast YtdgkppldopiaoaaGreatW.PrintMore BMap BRow GDiffer GBlk CPure CBits CClasses MLines MSide MPol Go.Maps
open PG
def numsAt (l : List ByteArray) (s : ByteArray) : List Int := (l.zipIdx.filter (fun p => decide (p.1 = s))).map (fun p => ((p.2 : Nat) : Int))
theorem numsAt_snoc (l : List ByteArray) (a s : ByteArray) : numsAt (l ++ [a]) s = numsAt l s ++ if a = s then [(l.length : Int)] else [] := by
 unfold numsAt
 rw [List.zipIdx_append, List.filter_append, List.map_append]
 congr 1
 by_cases h : a = s <;> simp [h]
theorem mem_numsAt (l : List ByteArray) (s : ByteArray) (k : Nat) : (k : Int) ∈ numsAt l s ↔ l[k]? = some s := by
 unfold numsAt
 simp only [List.mem_map, List.mem_filter, decide_eq_true_eq]
 constructor
 ·rintro ⟨⟨x, i⟩, ⟨h1, h2⟩, h3⟩
  have h4 := List.mk_mem_zipIdx_iff_getElem?.1 h1
  obtain rfl : i = k := by have h3 : (i : Int) = k := h3; omega
  obtain rfl : x = s := h2
  exact h4
 ·intro h
  exact ⟨(s, k), ⟨List.mk_mem_zipIdx_iff_getElem?.2 h, rfl⟩, rfl⟩
theorem numsAt_length (l : List ByteArray) (s : ByteArray) : (numsAt l s).length ≤ l.length := by
 unfold numsAt
 rw [List.length_map]
 have := List.length_filter_le (fun p : ByteArray × Nat => decide (p.1 = s)) l.zipIdx
 simpa using this
structure Nums (w wr : World) (b : Nat) (f : ByteArray → Option Value) (n : Nat) (l : List ByteArray) : Prop where
 map : MapF Value.string id okS wr b f n
 ge : w.heap.size ≤ b
 no : ∀ s, f s = none → numsAt l s = []
 vals : ∀ s v, f s = some v → Kd.R (Kd.int .i64) 3 wr w.heap.size (fun k => k ≠ b) v (numsAt l s)
 apart : ∀ s s' v v' k, s ≠ s' → f s = some v → f s' = some v' → v.ownBlock = some k → v'.ownBlock ≠ some k
 below : Below w.heap.size w wr
theorem z22 (w : World) : (zeroValue 22).run Tryz.prog w = .ok (.slice none 0 0) w := by kernel_rfl
theorem Nums.move {w wr w1 : World} {b : Nat} {f : ByteArray → Option Value} {n : Nat} {l : List ByteArray} (h : Nums w wr b f n l) (hb : Below wr.heap.size wr w1) : Nums w w1 b f n l :=
 ⟨h.map.below hb, h.ge, h.no, fun s v hv => Kd.R_below (h.vals s v hv) hb, h.apart, below_then h.below h.below.size hb⟩
theorem Nums.grown {w wr w1 : World} {b : Nat} {f : ByteArray → Option Value} {n : Nat} {l : List ByteArray} {row : Nat} (h : Nums w wr b f n l) (hg : wr.grownBy w1 (some row)) (hge : w.heap.size ≤ row) (hne : b ≠ row) (hr : ∀ s v, f s = some v → v.ownBlock ≠ some row) : Nums w w1 b f n l where
 map := h.map.grown hg (fun e => hne (Option.some.inj e))
 ge := h.ge
 no := h.no
 vals := fun s v hv => Kd.R_mono (Kd.R_grown (Cl.okR (ok' := fun k => k ≠ b ∧ k ≠ row) (h.vals s v hv) (fun k hk => ⟨(h.vals s v hv).1 k hk, fun e => hr s v hv (by rw [hk, e])⟩)) hg (fun k hk e => hk.2 (Option.some.inj e))) (fun k hk => hk.1)
 apart := h.apart
 below := h.below.grown hg h.below.size (fun k hk => by cases hk; exact hge)
theorem Nums.put {w W w1 w4 : World} {b : Nat} {f : ByteArray → Option Value} {n n' : Nat} {l : List ByteArray} {a : ByteArray} {v0 v1 : Value} (h : Nums w W b f n l) (hv0 : v0 = (f a).getD (.slice none 0 0))
  (hR1 : Kd.R (Kd.int .i64) 3 w1 w.heap.size (fun k => k ≠ b) v1 (numsAt l a ++ [(l.length : Int)])) (hB1 : Below w.heap.size w w1) (hg1 : W.grownBy w1 v0.ownBlock) (Zi : v1.ownBlock = v0.ownBlock ∨ ∃ b, v1.ownBlock = some b ∧ W.heap.size ≤ b)
  (hM4 : MapF Value.string id okS w4 b (upd f a v1) n') (hg4 : w1.grownBy w4 (some b)) : Nums w w4 b (upd f a v1) n' (l ++ [a]) where
 map := hM4
 ge := h.ge
 no := fun s hs => by
  by_cases e : s = a
  ·subst e; rw [upd_same] at hs; cases hs
  ·rw [upd_other _ _ e] at hs
   rw [numsAt_snoc, if_neg (fun k => e k.symm), List.append_nil, h.no s hs]
 vals := fun s v hs => by
  by_cases e : s = a
  ·subst e
   rw [upd_same] at hs
   obtain rfl := Option.some.inj hs
   rw [numsAt_snoc, if_pos rfl]
   exact Kd.R_grown hR1 hg4 (fun k hk => fun e => hk (Option.some.inj e))
  ·rw [upd_other _ _ e] at hs
   rw [numsAt_snoc, if_neg (fun k => e k.symm), List.append_nil]
   have h1 := h.vals s v hs
   have h2 : Kd.R (Kd.int .i64) 3 W w.heap.size (fun k => k ≠ b ∧ some k ≠ v0.ownBlock) v (numsAt l s) := Cl.okR h1 fun k hk => ⟨h1.1 k hk, by
    subst hv0
    cases hf : f a with
    | none => simp [Value.ownBlock]
    | some v' =>
     intro hh
     exact h.apart s a v v' k e hs hf hk hh.symm⟩
   have h3 := Kd.R_grown h2 hg1 (fun k hk => hk.2)
   exact Kd.R_mono (Kd.R_grown h3 hg4 (fun k hk => fun e => hk.1 (Option.some.inj e))) (fun k hk => hk.1)
 apart := fun s s' v v' k hne hs hs' hk hk' => by
  have hfar : ∀ t u, t ≠ a → f t = some u → u.ownBlock = some k → v1.ownBlock = some k → False := by
   intro t u ht hu huk h1k
   rcases Zi with e | ⟨g, e, hge⟩
   ·subst hv0
    cases hf : f a with
    | none => rw [hf] at e; rw [e] at h1k; simp [Value.ownBlock] at h1k
    | some u' => rw [hf] at e; rw [e] at h1k; exact h.apart t a u u' k ht hu hf huk h1k
   ·rw [e] at h1k
    have := Cl.ltR (h.vals t u hu) k huk
    have := Option.some.inj h1k
    omega
  by_cases e : s = a
  ·by_cases e' : s' = a
   ·exact hne (e.trans e'.symm)
   ·rw [e, upd_same] at hs
    rw [upd_other _ _ e'] at hs'
    obtain rfl := Option.some.inj hs
    exact hfar s' v' e' hs' hk' hk
  ·rw [upd_other _ _ e] at hs
   by_cases e' : s' = a
   ·rw [e', upd_same] at hs'
    obtain rfl := Option.some.inj hs'
    exact hfar s v e hs hk hk'
   ·rw [upd_other _ _ e'] at hs'
    exact h.apart s s' v v' k hne hs hs' hk hk'
 below := hB1.grown hg4 (Nat.le_trans h.below.size (hg1.size)) (fun k hk => by cases hk; exact h.ge)
theorem Nums.lk {w wr : World} {b : Nat} {f : ByteArray → Option Value} {n : Nat} {l : List ByteArray} (h : Nums w wr b f n l) {s : ByteArray} (hs : okS s) : (Instr.lookup 201 (.map (some b)) (.string s) false).run Tryz.prog wr = .ok ((f s).getD (.slice none 0 0)) wr := by
 have hq := h.map.lookup str_key Tryz.underlying201 (z22 wr) hs false
 simp only [Bool.false_eq_true, if_false, Option.map_id_fun, id] at hq
 exact hq
theorem Nums.read {w wr : World} {b : Nat} {f : ByteArray → Option Value} {n : Nat} {l : List ByteArray} (h : Nums w wr b f n l) (s : ByteArray) : ∃ A c, (f s).getD (.slice none 0 0) = .slice A (numsAt l s).length c ∧ Kd.C (Kd.int .i64) wr A (numsAt l s).length (numsAt l s) ∧ (numsAt l s).length ≤ c := by
 cases hf : f s with
 | none =>
  rw [h.no s hf]
  exact ⟨none, 0, rfl, ⟨rfl, by simp, fun h => absurd h (by simp)⟩, Nat.le_refl _⟩
 | some v =>
  obtain ⟨A, c, rfl, hl, hr⟩ := Kd.R_reads (h.vals s v hf)
  exact ⟨A, c, rfl, hr, hl⟩
theorem own_not_map {κ β : Type} {kenc : κ → Value} {venc : β → Value} {ok' : κ → Prop} {w : World} {b n : Nat} {fm : κ → Option β} (hM : MapF kenc venc ok' w b fm n) {α : Type} {dk : Kd α} {e base : Nat} {ok : Nat → Prop} {v : Value} {xs : List α} (h : dk.R e w base ok v xs) : v.ownBlock ≠ some b := by
 intro hb
 obtain ⟨inner, ho⟩ := Kd.R_own h
 obtain ⟨cells, hc⟩ := own_typed ho b hb
 obtain ⟨es, cl, l, h2, _⟩ := hM.out
 rw [h2] at hc
 cases hc
theorem Nums.beside {κ β : Type} {kenc : κ → Value} {venc : β → Value} {ok' : κ → Prop} {w wr w1 : World} {b n na ga : Nat} {f : ByteArray → Option Value} {fm : κ → Option β} {l : List ByteArray} (h : Nums w wr b f n l) (hM : MapF kenc venc ok' wr ga fm na) (hge : w.heap.size ≤ ga) (hne : b ≠ ga) (hg : wr.grownBy w1 (some ga)) : Nums w w1 b f n l :=
 h.grown hg hge hne (fun s v hv => own_not_map hM (h.vals s v hv))
abbrev PK := ByteArray × ByteArray
def okP (p : PK) : Prop := okS p.1 ∧ okS p.2
def pairV (p : PK) : Value := .agg #[.string p.1, .string p.2]
theorem pair_law : WideMaps.KeyLaw Tryz.prog 181 := deep_law_gate laidOut (of_decide_eq_true (by kernel_rfl)) (of_decide_eq_true (by kernel_rfl)) (by kernel_rfl) (by kernel_rfl)
theorem type110 : Tryz.prog.keyType 181 = true := by kernel_rfl
theorem cells110 : Tryz.prog.cellsOf 181 = 2 := by kernel_rfl
theorem cells9 : Tryz.prog.cellsOf 9 = 1 := by kernel_rfl
theorem str_lits (d : Nat) (s : ByteArray) (h : okS s) : Tryz.prog.keyLits (d + 1) 9 [.string s] = some [.string s.data.toList] := by
 have hm : s.size ≤ maxLen := Nat.le_trans h (by decide)
 unfold Program.keyLits
 rw [Tryz.underlying9]
 simp [hm]
theorem pair_is (p : PK) (h : okP p) : ∃ x, keyOf Tryz.prog 181 (pairV p) = some x := by
 obtain ⟨h1, h2⟩ := h
 have hk : Tryz.prog.keyLits (Tryz.prog.types.size + 1) 181 [.string p.1, .string p.2] = some [.string p.1.data.toList, .string p.2.data.toList] := by
  obtain ⟨dep, hdep⟩ := depth
  rw [hdep]
  unfold Program.keyLits
  rw [Tryz.underlying181]
  simp [cells110, cells9, str_lits _ _ h1, str_lits _ _ h2]
 unfold keyOf
 rw [Tryz.underlying181]
 have hf : (pairV p).formed Tryz.prog 181 = true := by
  simp [Value.formed, pairV, Tryz.underlying181, cells110]
 simp only [type110, hf, Bool.and_self, if_true]
 show ∃ x, (Tryz.prog.keyLits (Tryz.prog.types.size + 1) 181 #[Value.string p.1, .string p.2].toList).map _ = some x
 rw [List.toList_toArray, hk]
 exact ⟨_, rfl⟩
theorem pair_key : KeyOk Tryz.prog 181 pairV okP := ⟨Keyed.of_law pair_law, pair_is, fun a b h => by
 simp only [pairV, Value.agg.injEq] at h
 have := congrArg Array.toList h
 simp at this
 exact Prod.ext this.1 this.2⟩
abbrev MapP := MapF pairV (Value.int .u16) okP
theorem zero104 (w : World) : (zeroValue 175).run Tryz.prog w = .ok (.int .u16 0) w := by kernel_rfl
theorem pair_look {w : World} {b : Nat} {f : PK → Option Int} {n : Nat} (hM : MapP w b f n) {p : PK} (hp : okP p) : (Instr.lookup 177 (.map (some b)) (.agg #[.string p.1, .string p.2]) false).run Tryz.prog w = .ok (.int .u16 ((f p).getD 0)) w := by
 have hq := hM.lookup pair_key Tryz.underlying177 (zero104 w) hp false
 have e : ((f p).map (Value.int IntKind.u16)).getD (.int .u16 0) = .int .u16 ((f p).getD 0) := by cases f p <;> rfl
 simp only [Bool.false_eq_true, if_false, e] at hq
 exact hq
structure Alls (l : List ByteArray) (L : List S89) (f : PK → Option Int) : Prop where
 ok : ∀ p, ∃ m : Nat, (f p).getD 0 = m ∧ m < 65536 ∧ ∀ k, m.testBit k = true ↔ k < 16 ∧ ∃ a, l[k]? = some a ∧ (⟨p.1, p.2, a⟩ : S89) ∈ L
theorem Alls.none_ (l : List ByteArray) : Alls l [] (fun _ => none) := ⟨fun _ => ⟨0, rfl, by omega, fun k => by simp⟩⟩
theorem Alls.put {l : List ByteArray} {L : List S89} {f : PK → Option Int} (h : Alls l L f) (t : S89) (m : Nat) (hm : (f (t.f0, t.f1)).getD 0 = m) : Alls l (L ++ [t]) (upd f (t.f0, t.f1) ((m ||| orBits (numsAt l t.f2) : Nat) : Int)) := by
 refine ⟨fun p => ?_⟩
 obtain ⟨m', h1, h2, h3⟩ := h.ok p
 by_cases e : p = (t.f0, t.f1)
 ·subst e
  obtain rfl : m' = m := by have := h1.symm.trans hm; omega
  refine ⟨m' ||| orBits (numsAt l t.f2), by rw [upd_same]; rfl, Nat.or_lt_two_pow (n := 16) h2 (orBits_lt _), fun k => ?_⟩
  rw [Nat.testBit_or, Bool.or_eq_true, h3, orBits_bit, decide_eq_true_eq, mem_numsAt]
  constructor
  ·rintro (⟨h4, a, h5, h6⟩ | ⟨h4, h5⟩)
   ·exact ⟨h4, a, h5, List.mem_append_left _ h6⟩
   ·exact ⟨h4, _, h5, List.mem_append_right _ (List.mem_singleton.2 rfl)⟩
  ·rintro ⟨h4, a, h5, h6⟩
   rcases List.mem_append.1 h6 with h6 | h6
   ·exact .inl ⟨h4, a, h5, h6⟩
   ·refine .inr ⟨h4, ?_⟩
    have := List.mem_singleton.1 h6
    rw [h5, ← this]
 ·refine ⟨m', by rw [upd_other _ _ e]; exact h1, h2, fun k => ?_⟩
  rw [h3]
  constructor
  ·rintro ⟨h4, a, h5, h6⟩
   exact ⟨h4, a, h5, List.mem_append_left _ h6⟩
  ·rintro ⟨h4, a, h5, h6⟩
   refine ⟨h4, a, h5, ?_⟩
   rcases List.mem_append.1 h6 with h6 | h6
   ·exact h6
   ·exact absurd (by rw [← List.mem_singleton.1 h6]) e
theorem masks_calls (p : Pol) (w : World) (hp : p.In w) (hd : p.d.Ok) (hs : p.d.subs.length ≤ 64) (ho : p.d.objs.length ≤ 64) (ha : p.d.acts.length ≤ 16) :
  Calls Tryz.prog 73 #[.agg p.cells] w fun e w' => ∃ b f n L, e = .returned (.map (some b)) ∧ MapP w' b f n ∧ Alls p.d.acts L f ∧ (∀ t, t ∈ L ↔ ((∃ y ∈ p.d.subs, y.f0 = t.f0) ∧ p.d.allowB t = true)) ∧ w.heap.size ≤ b ∧ Below w.heap.size w w' := by
 obtain ⟨d, A0, c0, A1, c1, A2, c2, A3, c3, A4, c4, A5, c5, A6, c6, A7, c7, A8, c8, A9, c9, A10, c10⟩ := p
 have HP := jA hp
 have HD := jA hd
 have HS := jA hs
 have HO := jA ho
 have HA := jA ha
 have hmax : d.acts.length ≤ 16 := ha
 clear hp hd hs ho ha
 have Zd : Stays (w.alloc (.cells (Pol.cells (Pol.mk d A0 c0 A1 c1 A2 c2 A3 c3 A4 c4 A5 c5 A6 c6 A7 c7 A8 c8 A9 c9 A10 c10)) 82)) w.heap.size (Pol.cells (Pol.mk d A0 c0 A1 c1 A2 c2 A3 c3 A4 c4 A5 c5 A6 c6 A7 c7 A8 c8 A9 c9 A10 c10)) 82 := heap_alloc_new w _
 have HST := jA Zd
 have e0 := Zd.cell 0
 simp only [Pol.cells, List.getElem?_toArray, List.getElem?_cons_zero] at e0
 clear Zd
 unfold Pol.cells
 unfold Pol.cells at HST
 simp only [] at HST e0 ⊢
 have hmm := @run_makeMap Tryz.prog
 go_enter Tryz.func73, Tryz.ntmps73
 go_upto_region 2 with fail
 have hW0s : Stays ((w.alloc (.cells #[.slice A0 d.acts.length c0, .slice A1 d.subs.length c1, .slice A2 d.roles.length c2, .slice A3 d.objs.length c3, .slice A4 d.grps.length c4, .slice A5 d.mem.length c5, .slice A6 d.inh.length c6, .slice A7 d.par.length c7, .slice A8 d.wit.length c8, .slice A9 d.rules.length c9, .slice A10 d.exc.length c10] 82)).alloc (.map #[] 0)) w.heap.size #[.slice A0 d.acts.length c0, .slice A1 d.subs.length c1, .slice A2 d.roles.length c2, .slice A3 d.objs.length c3, .slice A4 d.grps.length c4, .slice A5 d.mem.length c5, .slice A6 d.inh.length c6, .slice A7 d.par.length c7, .slice A8 d.wit.length c8, .slice A9 d.rules.length c9, .slice A10 d.exc.length c10] 82 := HST.out.below (below_alloc (Below.refl _ _) _)
 have hW0b : Below w.heap.size w ((w.alloc (.cells #[.slice A0 d.acts.length c0, .slice A1 d.subs.length c1, .slice A2 d.roles.length c2, .slice A3 d.objs.length c3, .slice A4 d.grps.length c4, .slice A5 d.mem.length c5, .slice A6 d.inh.length c6, .slice A7 d.par.length c7, .slice A8 d.wit.length c8, .slice A9 d.rules.length c9, .slice A10 d.exc.length c10] 82)).alloc (.map #[] 0)) := below_alloc (below_alloc (Below.refl _ _) _) _
 have hW0n : Nums w ((w.alloc (.cells #[.slice A0 d.acts.length c0, .slice A1 d.subs.length c1, .slice A2 d.roles.length c2, .slice A3 d.objs.length c3, .slice A4 d.grps.length c4, .slice A5 d.mem.length c5, .slice A6 d.inh.length c6, .slice A7 d.par.length c7, .slice A8 d.wit.length c8, .slice A9 d.rules.length c9, .slice A10 d.exc.length c10] 82)).alloc (.map #[] 0)) (w.heap.size + 1) (fun _ => none) 0 [] := by
  have hM := MapF.made (kenc := Value.string) (venc := (id : Value → Value)) (ok := okS) (w.alloc (.cells #[.slice A0 d.acts.length c0, .slice A1 d.subs.length c1, .slice A2 d.roles.length c2, .slice A3 d.objs.length c3, .slice A4 d.grps.length c4, .slice A5 d.mem.length c5, .slice A6 d.inh.length c6, .slice A7 d.par.length c7, .slice A8 d.wit.length c8, .slice A9 d.rules.length c9, .slice A10 d.exc.length c10] 82))
  have hz : (w.alloc (.cells #[.slice A0 d.acts.length c0, .slice A1 d.subs.length c1, .slice A2 d.roles.length c2, .slice A3 d.objs.length c3, .slice A4 d.grps.length c4, .slice A5 d.mem.length c5, .slice A6 d.inh.length c6, .slice A7 d.par.length c7, .slice A8 d.wit.length c8, .slice A9 d.rules.length c9, .slice A10 d.exc.length c10] 82)).heap.size = w.heap.size + 1 := Array.size_push ..
  rw [hz] at hM
  exact ⟨hM, by omega, fun s _ => rfl, fun s v h => by simp at h, fun s s' v v' k _ h => by simp at h, hW0b⟩
 obtain ⟨W0, hW0⟩ : ∃ W0, W0 = ((w.alloc (.cells #[.slice A0 d.acts.length c0, .slice A1 d.subs.length c1, .slice A2 d.roles.length c2, .slice A3 d.objs.length c3, .slice A4 d.grps.length c4, .slice A5 d.mem.length c5, .slice A6 d.inh.length c6, .slice A7 d.par.length c7, .slice A8 d.wit.length c8, .slice A9 d.rules.length c9, .slice A10 d.exc.length c10] 82)).alloc (.map #[] 0)) := ⟨_, rfl⟩
 obtain ⟨gm, hgm⟩ : ∃ gm, gm = w.heap.size + 1 := ⟨_, rfl⟩
 rw [← hW0] at hW0s hW0b hW0n ⊢
 rw [← hgm] at hW0n ⊢
 have e0 := hW0s.cell 0
 simp only [List.getElem?_toArray, List.getElem?_cons_zero] at e0
 have HN0 := jA hW0n
 have HS0 := jA hW0s
 clear hW0s hW0b hW0n hW0 hgm HST
 go_wp2
 clear e0
 go_loopw [13] (fun u13 wr => ∃ (k : Nat) (f : ByteArray → Option Value) (n : Nat), k ≤ d.acts.length ∧ u13 = .int .i64 k ∧ Aside0 (Nums w wr gm f n (d.acts.take k)) ∧ Aside0 (Stays wr w.heap.size #[.slice A0 d.acts.length c0, .slice A1 d.subs.length c1, .slice A2 d.roles.length c2, .slice A3 d.objs.length c3, .slice A4 d.grps.length c4, .slice A5 d.mem.length c5, .slice A6 d.inh.length c6, .slice A7 d.par.length c7, .slice A8 d.wit.length c8, .slice A9 d.rules.length c9, .slice A10 d.exc.length c10] 82)) (fun u13 _ => d.acts.length - (intOf u13).toNat)
 case atStart => exact ⟨0, _, _, Nat.zero_le _, rfl, HN0, HS0⟩
 case round =>
  obtain ⟨k, f, n, hk, rfl, HN, HB⟩ := hrel
  have hpin := HP.out.below HN.out.below
  by_cases hlt : k < d.acts.length
  ·obtain ⟨ad, ea, hx⟩ := Kd.at_string hpin.h0 (k : Int) (by omega) (by simp only []; omega)
   have ea : A0 = some ad := ea
   subst ea
   have hget : rdOf ByteArray.empty d.acts (k : Int) = d.acts[k] := by simp [rdOf, hlt]
   simp only [hget, Int.toNat_natCast] at hx
   have htk : d.acts.take (k + 1) = d.acts.take k ++ [d.acts[k]] := List.take_succ_eq_append_getElem hlt
   have hq := HD.out.acts d.acts[k] (List.getElem_mem hlt)
   have hlen : (d.acts.take k).length = k := by rw [List.length_take]; omega
   obtain ⟨a, haa⟩ : ∃ a, a = d.acts[k] := ⟨_, rfl⟩
   rw [← haa] at hx htk hq
   have HQ := jA hq
   have HTK := jA htk
   have HLEN := jA hlen
   obtain ⟨v0, hv0⟩ : ∃ v0, v0 = (f a).getD (.slice none 0 0) := ⟨_, rfl⟩
   have hlk : (Instr.lookup 201 (.map (some gm)) (.string a) false).run Tryz.prog wr = .ok v0 wr := by
    have := HN.out.map.lookup str_key Tryz.underlying201 (z22 wr) HQ.out false
    subst hv0
    simpa using this
   have hR0 : Kd.R (Kd.int .i64) 3 wr w.heap.size (fun k => k ≠ gm) v0 (numsAt (d.acts.take k) a) := by
    subst hv0
    cases hf : f a with
    | none => rw [HN.out.no _ hf]; exact Kd.R_nil _ _ _ _ _
    | some v => exact HN.out.vals _ _ hf
   have HV0 := jA hv0
   have HR0 := jA hR0
   have hlim : ((numsAt (d.acts.take k) a).length + 1) * 8 ≤ 140737488355328 := by
    have h1 := numsAt_length (d.acts.take k) a
    rw [hlen] at h1
    omega
   have HLIM := jA hlim
   have c0' : (k : Int) < d.acts.length := by omega
   clear hpin hget htk hq hlen haa hv0 hR0 hlim
   obtain ⟨La, hLa⟩ : ∃ La, La = numsAt (d.acts.take k) a := ⟨_, rfl⟩
   rw [← hLa] at HR0 HLIM
   have HLA := jA hLa
   clear hLa
   go_wp2_with (first | ((with_reducible refine gate_builtin (b := .append) (xs := #[.tmp 22, .tmp 24]) rfl ?_); at_builtin; refine Kd.R_append (Kd.int .i64) (w0 := w) w.heap.size rfl (.tmp 22) (.tmp 24) 22 3 (.int .i64 0) 8 rfl Tryz.underlying22 info3 rfl (by decide) (by decide) v0 La (k : Int) [.int .i64 k] (fun b => b ≠ gm) (fun _ => False) rfl rfl rfl (fun _ hk => hk.elim) (fun k hk e => by have := HN.out.map.lt; omega) HR0.out HN.out.below HN.out.below.size HLIM.out ?_; intro v8 w8 hR8 hB8 hg8 Zf; obtain ⟨w9, Zb, hM9, hg9⟩ := (HN.out.map.grown hg8 (fun e => HR0.out.1 _ e.symm rfl)).update str_key Tryz.underlying201 HQ.out v8; have Zb : (Instr.mapUpdate 201 (.map (some gm)) (.string a) v8).run Tryz.prog w8 = .ok () w9 := Zb; have HN9 := jA (HN.out.put HV0.out (by rw [← HLA.out, HLEN.out]; exact hR8) hB8 hg8 Zf hM9 hg9); have HB9 := jA (show Stays w9 w.heap.size _ 82 from (hg9.block _ (Nat.lt_of_lt_of_le (Array.getElem?_eq_some_iff.1 HB.out).1 hg8.size) (fun e => map_ne HN.out.map HB.out (Option.some.inj e))).trans ((hg8.block _ (Array.getElem?_eq_some_iff.1 HB.out).1 (Kd.R_ne HR0.out HB.out (by decide))).trans HB.out)); clear hR8 hB8 hg8 Zf hM9 hg9))
   go_roundw
   case rel => exact ⟨k + 1, _, _, by omega, by go_num, ⟨by rw [HTK.out]; exact HN9.out⟩, HB9⟩
   case measure => simp [intOf]; omega
  ·have hkk : k = d.acts.length := by omega
   subst hkk
   have hN := HN.out
   rw [List.take_length] at hN
   have HN1 := jA hN
   obtain ⟨w1, hw1⟩ : ∃ w1, w1 = wr := ⟨_, rfl⟩
   subst hw1
   clear hN HN hpin
   have hmm := @run_makeMap Tryz.prog
   go_upto_region 8 with fail
   clear hmm
   have hM1 : MapP (w1.alloc (.map #[] 0)) w1.heap.size (fun _ => none) 0 := MapF.made w1
   have hb1 := below_alloc (Below.refl _ w1) (.map #[] 0)
   have hN1 := HN1.out.move hb1
   have hB1 := HB.out.below hb1
   have hne : gm ≠ w1.heap.size := by have := HN1.out.map.lt; omega
   have hga : w.heap.size ≤ w1.heap.size := HN1.out.below.size
   have Za : w1.heap.size < (w1.alloc (.map #[] 0)).heap.size := hM1.lt
   obtain ⟨W1, hW1⟩ : ∃ W1, W1 = w1.alloc (.map #[] 0) := ⟨_, rfl⟩
   obtain ⟨ga, hgae⟩ : ∃ ga, ga = w1.heap.size := ⟨_, rfl⟩
   rw [← hW1] at hM1 hN1 hB1 Za ⊢
   rw [← hgae] at hM1 hne hga Za ⊢
   have HM2 := jA hM1
   have HN2 := jA hN1
   have HB2 := jA hB1
   have HNE := jA hne
   have HGA := jA hga
   have Zj := jA Za
   clear hM1 hb1 hN1 hB1 hne hga Za hW1 hgae HN1 HB
   go_upto_region 9 with (first | ((with_reducible refine gate_dst (N := 28) rfl ?_); refine wpList_load_blk rfl 82 (.tmp 1) rfl w.heap.size ?hx #[.slice A0 d.acts.length c0, .slice A1 d.subs.length c1, .slice A2 d.roles.length c2, .slice A3 d.objs.length c3, .slice A4 d.grps.length c4, .slice A5 d.mem.length c5, .slice A6 d.inh.length c6, .slice A7 d.par.length c7, .slice A8 d.wit.length c8, .slice A9 d.rules.length c9, .slice A10 d.exc.length c10] 82 HB2.out _ Tryz.underlying82 rfl i39 ?_; (case hx => rfl)) | (go_at_call 92; (refine (Relation_calls (Pol.mk d A0 c0 A1 c1 A2 c2 A3 c3 A4 c4 A5 c5 A6 c6 A7 c7 A8 c8 A9 c9 A10 c10) _ (HP.out.below HN2.out.below) HD.out HS.out HO.out HA.out).mono ?_); rintro e w2 ⟨v29, rfl, L, hL, hspec, hlen, hb2⟩; obtain ⟨AL, cL, rfl⟩ := Kd.R_slice hL; have HL2 := jA (Kd.R_lower (Kd.R_mono (Kd.R_bound hL) (ok' := fun b => b ≠ ga) (fun k hk e => by have h1 := hk.2.1; have h2 := Zj.out; omega)) HN2.out.below.size); have HSP := jA hspec; have HLL := jA hlen; have HM3 := jA (HM2.out.below hb2); have HN3 := jA (HN2.out.move hb2); clear hL hspec hlen hb2))
   have hlmax : L.length ≤ 65536 := HLL.out
   go_loopw [31] (fun u31 wr => ∃ (k : Nat) (fa : PK → Option Int) (na : Nat), k ≤ L.length ∧ u31 = .int .i64 k ∧ Aside0 (Nums w wr gm f n d.acts) ∧ Aside0 (MapP wr ga fa na) ∧ Aside0 (Alls d.acts (L.take k) fa) ∧ Aside0 (Kd.R k89 89 wr w.heap.size (fun b => b ≠ ga) (.slice AL L.length cL) L)) (fun u31 _ => L.length - (intOf u31).toNat)
   case atStart => exact ⟨0, _, _, Nat.zero_le _, rfl, HN3, HM3, ⟨Alls.none_ _⟩, HL2⟩
   case round =>
    obtain ⟨k, fa, na, hk, rfl, HN4, HM4, HF4, HL4⟩ := hrel
    by_cases hlt : k < L.length
    ·have hCL := (Kd.R_reads' HL4.out).2.2
     obtain ⟨ad, ea, hx0, hx1, hx2⟩ := at_T89 hCL (k : Int) (by omega) (by omega)
     subst ea
     have hget : rd_T89 L (k : Int) = L[k] := by simp [rd_T89, hlt]
     simp only [hget, Int.toNat_natCast] at hx0 hx1 hx2
     have htk : L.take (k + 1) = L.take k ++ [L[k]] := List.take_succ_eq_append_getElem hlt
     have hmem : L[k] ∈ L := List.getElem_mem hlt
     obtain ⟨t, htt⟩ : ∃ t, t = L[k] := ⟨_, rfl⟩
     rw [← htt] at hx0 hx1 hx2 htk hmem
     have hsp := (HSP.out t).1 hmem
     have Zg : okS t.f0 := by
      obtain ⟨y, hy, he⟩ := hsp.1
      rw [← he]; exact HD.out.subs y hy
     have hin : t.f1 ∈ d.objs ∧ t.f2 ∈ d.acts := by
      have h2 := hsp.2
      unfold PolD.allowB at h2
      simp only [Bool.and_eq_true, decide_eq_true_eq] at h2
      exact ⟨h2.2.1, h2.2.2.1⟩
     have HOKP := jA (show okP (t.f0, t.f1) from ⟨Zg, HD.out.objs _ hin.1⟩)
     have HOKA := jA (HD.out.acts _ hin.2)
     have HTK := jA htk
     have hcw : ∀ (j : Nat) (v : Value), ([.string t.f0, .string t.f1, .string t.f2] : List Value)[j]? = some v → wr.cell? ((ad.add (k * 3)).add j) = some v := by
      intro j v hj
      have hj3 : j < 3 := (List.getElem?_eq_some_iff.1 hj).1
      have : j = 0 ∨ j = 1 ∨ j = 2 := by omega
      rcases this with rfl | rfl | rfl
      ·obtain rfl : Value.string t.f0 = v := by simpa using hj
       rw [Addr.add_zero']; exact hx0
      ·obtain rfl : Value.string t.f1 = v := by simpa using hj
       rw [add_add, add_field _ _ 1 (by omega)]; exact hx1
      ·obtain rfl : Value.string t.f2 = v := by simpa using hj
       rw [add_add, add_field _ _ 2 (by omega)]; exact hx2
     have HCW := jA hcw
     obtain ⟨m, hfa, Zh, hbits⟩ := HF4.out.ok (t.f0, t.f1)
     have HFA := jA hfa
     have Zk := jA Zh
     obtain ⟨Ax, cx, hax, hcx, hlx⟩ := HN4.out.read t.f2
     have HAX := jA hax
     have Ze := jA hcx
     have HLX := jA hlx
     have c0' : (k : Int) < L.length := by omega
     clear hCL hx0 hx1 hx2 hget htk hmem hsp Zg hin hcw hfa Zh hbits hax hcx hlx htt
     obtain ⟨ns, hns⟩ : ∃ ns, ns = numsAt d.acts t.f2 := ⟨_, rfl⟩
     rw [← hns] at HAX Ze HLX
     have HNS := jA hns
     clear hns
     go_upto_region 11 with (first | ((with_reducible refine gate_dst (N := 34) rfl ?_); refine wpList_load_at rfl 89 (.tmp 33) rfl (ad.add (k * 3)) ?hx [.string t.f0, .string t.f1, .string t.f2] HCW.out _ Tryz.underlying89 rfl i28 ?_; (case hx => rfl); refine wpList_alloc_store rfl rfl 89 8 (.tmp 34) rfl rfl rfl #[.string ⟨#[]⟩, .string ⟨#[]⟩, .string ⟨#[]⟩] #[.string t.f0, .string t.f1, .string t.f2] _ (z28v _) rfl i28 rfl (by simp [Value.oneCell']) ?hy ?hp ?_; (case hy => rfl); (case hp => rfl)))
     (try simp only [Act.put])
     have hb2 : Below wr.heap.size wr ((wr.alloc (.cells #[.string t.f0, .string t.f1, .string t.f2] 89)).drew) := below_drew (below_alloc (Below.refl _ _) _)
     have hS2 : Stays ((wr.alloc (.cells #[.string t.f0, .string t.f1, .string t.f2] 89)).drew) wr.heap.size #[.string t.f0, .string t.f1, .string t.f2] 89 := heap_alloc_new wr _
     obtain ⟨W3, hW3⟩ : ∃ W3, W3 = ((wr.alloc (.cells #[.string t.f0, .string t.f1, .string t.f2] 89)).drew) := ⟨_, rfl⟩
     obtain ⟨g8, hg8⟩ : ∃ g8, g8 = wr.heap.size := ⟨_, rfl⟩
     have HN3 := jA (HN4.out.move hb2)
     have HM3 := jA (HM4.out.below hb2)
     have HS3 := jA hS2
     have HL3 := jA (Kd.R_below HL4.out hb2)
     have HCX := jA (Kd.C_below Ze.out hb2)
     rw [← hW3] at HN3 HM3 HS3 HL3 HCX
     rw [← hg8] at HS3 ⊢
     have hfa : (fa (t.f0, t.f1)).getD 0 = ((m : Nat) : Int) := HFA.out
     refine start_ (n := 16) (S := fun w' => w'.cell? ⟨g8, 0, none⟩ = some (.string t.f0) ∧ w'.cell? ⟨g8, 1, none⟩ = some (.string t.f1) ∧ w'.cell? ⟨g8, 2, none⟩ = some (.string t.f2) ∧ (Instr.lookup 177 (.map (some ga)) (.agg #[.string t.f0, .string t.f1]) false).run Tryz.prog w' = .ok (.int .u16 ((m : Nat) : Int)) w' ∧ (Instr.lookup 201 (.map (some gm)) (.string t.f2) false).run Tryz.prog w' = .ok (.slice Ax ns.length cx) w') (ds := [15]) (Jb 16 0) (by kernel_rfl) rfl (by kernel_rfl) (by rw [hg8, ← hW3, ← hg8]; exact ⟨HS3.out.cell 0, HS3.out.cell 1, HS3.out.cell 2, by have h0 := pair_look HM3.out (p := (t.f0, t.f1)) HOKP.out; rw [hfa] at h0; exact h0, by have h0 := HN3.out.lk HOKA.out; rw [HAX.out] at h0; exact h0⟩) (fun hHeld => ?_)
     rw [hg8, ← hW3, ← hg8] at hHeld
     rw [hg8, ← hW3, ← hg8]
     clear hb2 hS2 hW3 hg8 hfa HN4 HM4 HL4 Ze
     refine Jp 0 35 (Jb 16 1) rfl rfl ?_
     refine Jp 1 36 (Jb 16 3) rfl rfl ?_
     refine Jk 2 37 (Jb 16 7) rfl rfl hHeld (.inl ⟨by rfl, by rintro w' ⟨s0, s1, s2, s3, s4⟩; go_simp; with_reducible rfl⟩) ?_
     refine Jp 3 38 (Jb 16 15) rfl rfl ?_
     refine Jk 4 39 (Jb 16 31) rfl rfl hHeld (.inl ⟨by rfl, by rintro w' ⟨s0, s1, s2, s3, s4⟩; go_simp; with_reducible rfl⟩) ?_
     refine Jp 5 40 (Jb 16 63) rfl rfl ?_
     refine take_ (i := 6) (N := some 41) (v := ?_) (a' := ?_) (Jb 16 127) rfl rfl (by kernel_rfl) (fun _ _ _ h => h) (Or.inl ⟨by rfl, ?_⟩) hHeld ?_ ?_
     rotate_left
     ·rintro w' ⟨s0, s1, s2, s3, s4⟩
      simp [execOp, Act.eval, s3]
      rfl
     rotate_left
     ·simp only [Act.put, Jq, Jr, Js]
      rfl
     refine Jp 7 42 (Jb 16 255) rfl rfl ?_
     refine Jp 8 43 (Jb 16 511) rfl rfl ?_
     refine Jk 9 44 (Jb 16 1023) rfl rfl hHeld (.inl ⟨by rfl, by rintro w' ⟨s0, s1, s2, s3, s4⟩; go_simp; with_reducible rfl⟩) ?_
     refine take_ (i := 10) (N := some 45) (v := ?_) (a' := ?_) (Jb 16 2047) rfl rfl (by kernel_rfl) (fun _ _ _ h => h) (Or.inl ⟨by rfl, ?_⟩) hHeld ?_ ?_
     rotate_left
     ·rintro w' ⟨s0, s1, s2, s3, s4⟩
      simp [execOp, Act.eval, s4]
      rfl
     rotate_left
     ·simp only [Act.put, Jq, Jr, Js]
      rfl
     refine one_ (i := 11) (N := some 46) (Jb 16 4095) rfl rfl (by kernel_rfl) (by decide) (fun K hK => ?_)
     refine goes_ Tryz.func93 (by kernel_rfl) rfl #[.slice Ax ns.length cx] (by rfl) rfl rfl (by (try simp only [List.map_toArray, List.map_cons, List.map_nil]); first | done | rfl) ?_
     refine (mask_go Ax cx ns _ HCX.out HLX.out).mono ?_
     rintro e w8 ⟨rfl, ⟨nd, rfl⟩⟩
     refine ⟨_, rfl, ?_⟩
     have HN4 := jA (HN3.out.move (pw_below_drewN (Below.refl _ _) nd))
     have HM4 := jA (HM3.out.drewN nd)
     have HS4 := jA (HS3.out.below (pw_below_drewN (Below.refl _ _) nd))
     have HL4 := jA (Kd.R_below HL3.out (pw_below_drewN (Below.refl _ _) nd))
     obtain ⟨W4, hW4⟩ : ∃ W4, W4 = W3.drewN nd := ⟨_, rfl⟩
     rw [← hW4] at HN4 HM4 HS4 HL4 ⊢
     clear hW4
     have hfa : (fa (t.f0, t.f1)).getD 0 = ((m : Nat) : Int) := HFA.out
     refine hK.out _ _ ⟨HS4.out.cell 0, HS4.out.cell 1, HS4.out.cell 2, by have h0 := pair_look HM4.out (p := (t.f0, t.f1)) HOKP.out; rw [hfa] at h0; exact h0, by have h0 := HN4.out.lk HOKA.out; rw [HAX.out] at h0; exact h0⟩ (fun hHeld => ?_)
     clear hK K hfa
     refine norm_ (a' := ?_) ?_ ?_; rotate_left; (show Act.put _ (some 46) _ = _; simp only [Act.put, Jq, Jr, Js]; rfl)
     refine Jp 12 47 (Jb 16 8191) rfl rfl ?_
     obtain ⟨w5, stamp, hrun, hM5, hg5, hst⟩ := HM4.out.entry pair_key Tryz.underlying177 (zv := 0) (zero104 W4) (k := (t.f0, t.f1)) HOKP.out
     have hfa : (fa (t.f0, t.f1)).getD 0 = ((m : Nat) : Int) := HFA.out
     rw [hfa] at hrun hM5
     refine one_ (i := 13) (N := some 48) (Jb 16 16383) rfl rfl (by kernel_rfl) (by decide) (fun K hK => ?_)
     refine GDiffer.step_run (w' := w5) (v := .tuple #[.int .u16 ((m : Nat) : Int), .int .i64 stamp]) rfl rfl ?_ ?_
     ·have hrun' : (Instr.mapEntry 177 (.map (some ga)) (.agg #[.string t.f0, .string t.f1])).run Tryz.prog W4 = .ok (.tuple #[.int .u16 ((m : Nat) : Int), .int .i64 stamp]) w5 := hrun
      simp [execOp, Act.eval, hrun']
     have hS5 : Stays w5 g8 #[.string t.f0, .string t.f1, .string t.f2] 89 := (hg5.block _ (Array.getElem?_eq_some_iff.1 HS4.out).1 (fun e => map_ne HM4.out HS4.out (Option.some.inj e))).trans HS4.out
     have hN5 := HN4.out.beside HM4.out HGA.out HNE.out hg5
     refine hK.out _ _ ⟨hS5.cell 0, hS5.cell 1, hS5.cell 2, by have h0 := pair_look hM5 (p := (t.f0, t.f1)) HOKP.out; rw [upd_same, Option.getD_some] at h0; exact h0, by have h0 := hN5.lk HOKA.out; rw [HAX.out] at h0; exact h0⟩ (fun hHeld => ?_)
     clear hK K hS5 hN5
     refine norm_ (a' := ?_) ?_ ?_; rotate_left; (show Act.put _ (some 48) _ = _; simp only [Act.put, Jq, Jr, Js]; rfl)
     refine Jp 14 49 (Jb 16 32767) rfl rfl ?_
     refine last_ (i := 15) (N := none) (Jb 16 65535) rfl rfl (by kernel_rfl) (by decide) (fun K hK => ?_)
     obtain ⟨w6, Zc, hM6, hg6⟩ := hst (Go.bits .or .u16 ((m : Nat) : Int) ((orBits ns : Nat) : Int))
     refine GDiffer.step_skip (w' := w6) rfl rfl ?_ ?_
     ·simp [execOp, Act.eval, Zc]
     refine hK.out _ _ ?_
     clear hK K
     refine done_ (by kernel_rfl) ?_
     have hor := or_both m (orBits ns) Zk.out (orBits_lt ns)
     rw [hor] at hM6
     have HN6 := jA (HN4.out.beside HM4.out HGA.out HNE.out hg6)
     have HM6 := jA hM6
     have HL6 := jA (Kd.R_grown HL4.out hg6 (fun k hk e => hk (Option.some.inj e)))
     have hF6 := HF4.out.put t m HFA.out
     rw [← HNS.out, ← HTK.out] at hF6
     have HF6 := jA hF6
     clear hM6 hg6 Zc hst hM5 hg5 hrun hHeld hor hF6 hfa
     go_wp2
     go_roundw
     case rel => exact ⟨k + 1, _, _, by omega, by go_num, HN6, HM6, HF6, HL6⟩
     case measure => simp [intOf]; omega
    ·have hkk : k = L.length := by omega
     subst hkk
     have hF := HF4.out
     rw [List.take_length] at hF
     have HF5 := jA hF
     clear hF
     go_wp2
     go_ret
     exact ⟨_, _, _, L, rfl, HM4.out, HF5.out, HSP.out, HGA.out, HN4.out.below⟩
end Go.Proofs.YtdgkppldopiaoaaGreat.CMasks
/- slices.Clone of names. -/
namespace Go.Proofs.YtdgkppldopiaoaaGreat.CClone
open Go.RowKit YtdgkppldopiaoaaGreatW.PrintWords YtdgkppldopiaoaaGreatW.PrintLast YtdgkppldopiaoaaGreatW.PrintMore MLines MSide MPol Go.Maps
open PG
theorem clone_calls (A : Option Addr) (c : Nat) (l : List ByteArray) (w : World) (hC : Kd.C Kd.string w A l.length l) (hl : l.length ≤ 8796093022207) :
  Calls Tryz.prog 72 #[.slice A l.length c] w fun e w' => ∃ v, e = .returned v ∧ Kd.R Kd.string 9 w' w.heap.size (fun _ => True) v l ∧ Below w.heap.size w w' := by
 have HC := jA hC
 have HL := jA hl
 have hmax : l.length ≤ 9223372036854775807 := hC.2.1
 clear hC hl
 cases A with
 | none =>
  have h0 : l = [] := by
   have := HC.out.2.2
   cases l with
   | nil => rfl
   | cons x r => obtain ⟨ad, h, _⟩ := this (by simp); cases h
  subst h0
  have he := fun w : World => Lib.run_eql_slice_nil (P := Tryz.prog) w 76 9 none 0 c 0 0 Tryz.underlying76
  go_enter Tryz.func72, Tryz.ntmps72
  go_wp2
  go_ret
  exact ⟨_, rfl, Kd.R_nil _ _ _ _ _, Below.refl _ _⟩
 | some ad =>
  have he := fun w : World => Lib.run_eql_slice_nil (P := Tryz.prog) w 76 9 (some ad) l.length c 0 0 Tryz.underlying76
  go_enter Tryz.func72, Tryz.ntmps72
  go_upto_region 3 with fail
  clear he
  have hlim : ((([] : List ByteArray)).length + l.length) * 16 ≤ 140737488355328 := by have := HL.out; simp; omega
  have HLIM := jA hlim
  clear hlim
  have hR5 : Kd.R Kd.string 9 (w.alloc (.cells #[] 9)) w.heap.size (fun _ => True) (.slice (some ⟨w.heap.size, 0, none⟩) 0 0) [] := by
   have h0 := own_lit_of (enc := Value.string) w w.heap.size 9 [] (Nat.le_refl _) (by simp)
   exact Kd.R_of_own (h1 := fun _ => rfl) h0 (fun _ _ => trivial)
  have HR5 := jA hR5
  have HB5 := jA (below_alloc (Below.refl _ w) (.cells #[] 9))
  clear hR5
  go_wp2_with (first | ((with_reducible refine gate_builtin (b := .append) (xs := #[.tmp 5, .tmp 6]) rfl ?_); at_builtin; refine Kd.R_append_row Value.string ⟨#[]⟩ (w0 := w) w.heap.size rfl (.tmp 5) (.tmp 6) 76 9 (.string ⟨#[]⟩) 16 rfl Tryz.underlying76 info9 rfl (by decide) (.slice (some ⟨w.heap.size, 0, none⟩) 0 0) [] l (some ad) l.length c (fun _ => True) rfl rfl (fun _ _ => trivial) HR5.out (Kd.C_below HC.out HB5.out) HB5.out HB5.out.size HLIM.out ?_; intro v7 w7 hR7 hB7 hg7 Za; have HR7 := jA hR7; have HB7 := jA hB7; clear hR7 hB7 hg7 Za))
  obtain ⟨A7, c7, rfl⟩ := Kd.R_slice HR7.out
  go_ret
  exact ⟨_, rfl, HR7.out, HB7.out⟩
end Go.Proofs.YtdgkppldopiaoaaGreat.CClone
/- What lies still but in some blocks; a matrix filled step by step; a policy's masks. -/
namespace Go.Proofs.YtdgkppldopiaoaaGreat.CSame
open Go.RowKit YtdgkppldopiaoaaGreatW.PrintWords YtdgkppldopiaoaaGreatW.PrintLast YtdgkppldopiaoaaGreatW.PrintMore BMap BRow GDiffer GBlk CPure CBits CClasses CMasks MLines MSide MPol Go.Maps
open PG
structure Same (S : Nat → Prop) (W wr : World) : Prop where
 os : wr.os = W.os
 tape : wr.tape = W.tape
 output : wr.output = W.output
 size : W.heap.size ≤ wr.heap.size
 block : ∀ b, b < W.heap.size → ¬ S b → wr.heap[b]? = W.heap[b]?
namespace Same
variable {S : Nat → Prop} {w W wr w1 : World}
theorem refl (S : Nat → Prop) (W : World) : Same S W W := ⟨rfl, rfl, rfl, Nat.le_refl _, fun _ _ _ => rfl⟩
theorem of_below (h : Below W.heap.size W wr) : Same S W wr := ⟨h.os, h.tape, h.output, h.size, fun b hb _ => h.block b hb⟩
theorem move (h : Same S W wr) (hb : Below wr.heap.size wr w1) : Same S W w1 :=
 ⟨hb.os.trans h.os, hb.tape.trans h.tape, hb.output.trans h.output, Nat.le_trans h.size hb.size, fun b hl hs => (hb.block b (Nat.lt_of_lt_of_le hl h.size)).trans (h.block b hl hs)⟩
theorem grown (h : Same S W wr) {row : Option Nat} (hg : wr.grownBy w1 row) (hr : ∀ k, row = some k → S k ∨ W.heap.size ≤ k) : Same S W w1 :=
 ⟨hg.os.trans h.os, hg.tape.trans h.tape, hg.output.trans h.output, Nat.le_trans h.size hg.size, fun b hl hs => (hg.block b (Nat.lt_of_lt_of_le hl h.size) (fun e => by
  rcases hr b e.symm with h1 | h1
  ·exact hs h1
  ·omega)).trans (h.block b hl hs)⟩
theorem set (h : Same S W wr) {a : Addr} (ha : S a.block ∨ W.heap.size ≤ a.block) (v : Value) : Same S W (wr.setCell a v) :=
 ⟨h.os, h.tape, h.output, by simpa [World.setCell] using h.size, fun b hl hs => (heap_setCell_other wr a b v (fun e => by
  rcases ha with h1 | h1
  ·exact hs (e ▸ h1)
  ·omega)).trans (h.block b hl hs)⟩
theorem drew (h : Same S W wr) : Same S W wr.drew := ⟨h.os, h.tape, h.output, h.size, h.block⟩
theorem stays (h : Same S W wr) {g t : Nat} {cs : Array Value} (hs : Stays W g cs t) (hn : ¬ S g) : Stays wr g cs t := (h.block g (Array.getElem?_eq_some_iff.1 hs).1 hn).trans hs
theorem toR (h : Same S W wr) {α : Type} {d : Kd α} {e base : Nat} {ok : Nat → Prop} {v : Value} {xs : List α} (hR : d.R e W base ok v xs) (hok : ∀ k, ok k → ¬ S k) : d.R e wr base ok v xs := Kd.R_step hR (fun k ho hk => h.block k hk (hok k ho))
theorem map (h : Same S W wr) {κ β : Type} {kenc : κ → Value} {venc : β → Value} {ok : κ → Prop} {b n : Nat} {f : κ → Option β} (hM : MapF kenc venc ok W b f n) (hn : ¬ S b) : MapF kenc venc ok wr b f n := hM.move (h.block b hM.lt hn)
theorem blk (h : Same S W wr) {g n : Nat} {F : Nat → Nat → Int} (hB : Blk W g n F) (hn : ¬ S g) : Blk wr g n F := World.rowIs.of_block hB (h.block g hB.lt hn)
theorem below (h : Same S W wr) (hb : Below w.heap.size w W) (hS : ∀ k, S k → w.heap.size ≤ k) : Below w.heap.size w wr :=
 ⟨h.os.trans hb.os, h.tape.trans hb.tape, h.output.trans hb.output, Nat.le_trans hb.size h.size, fun b hl => (h.block b (Nat.lt_of_lt_of_le hl hb.size) (fun e => by have := hS b e; omega)).trans (hb.block b hl)⟩
end Same
theorem stays_set {w : World} {g t : Nat} {cs : Array Value} (h : Stays w g cs t) (j : Nat) (v : Value) : Stays (w.setCell ⟨g, j, none⟩ v) g (cs.setIfInBounds j v) t := heap_setCell_same w g j cs t v h
theorem stays_far {w : World} {g t : Nat} {cs : Array Value} (h : Stays w g cs t) {a : Addr} (ha : g ≠ a.block) (v : Value) : Stays (w.setCell a v) g cs t := (heap_setCell_other w a g v ha).trans h
theorem R_setCells {α : Type} {dk : Kd α} {e base g t : Nat} {ok : Nat → Prop} {w : World} {v : Value} {xs : List α} {cs : Array Value} (h : dk.R e w base ok v xs) (hb : Stays w g cs t) (ht : ∀ q, q ∈ e :: dk.E → q ≠ t) (l : List Value) : dk.R e (w.setCells g 0 l) base ok v xs :=
 Kd.R_mono (Kd.R_step (Kd.R_types h hb ht) (fun _ ho _ => setCells_far l 0 _ ho.2)) (fun _ hk => hk.1)
theorem R_set {α : Type} {dk : Kd α} {e base g t : Nat} {ok : Nat → Prop} {w : World} {v : Value} {xs : List α} {cs : Array Value} (h : dk.R e w base ok v xs) (hb : Stays w g cs t) (ht : ∀ q, q ∈ e :: dk.E → q ≠ t) (j : Nat) (u : Value) : dk.R e (w.setCell ⟨g, j, none⟩ u) base ok v xs := Kd.R_set h hb ht j u
def prt (M : Nat → Nat → Int) (i j a b : Nat) : Int := if a < i ∨ (a = i ∧ b < j) then M a b else 0
theorem prt_zero (M : Nat → Nat → Int) (a b : Nat) : prt M 0 0 a b = 0 := by unfold prt; rw [if_neg (by omega)]
theorem prt_next (M : Nat → Nat → Int) (i j a b : Nat) : (if a = i ∧ b = j then M i j else prt M i j a b) = prt M i (j + 1) a b := by
 unfold prt
 by_cases h : a = i ∧ b = j
 ·obtain ⟨rfl, rfl⟩ := h
  rw [if_pos ⟨rfl, rfl⟩, if_pos (by omega)]
 ·rw [if_neg h]
  by_cases h2 : a < i ∨ a = i ∧ b < j
  ·rw [if_pos h2, if_pos (by omega)]
  ·rw [if_neg h2, if_neg (by omega)]
theorem prt_row (M : Nat → Nat → Int) (m i a b : Nat) : prt (fill m M) i m a b = prt (fill m M) (i + 1) 0 a b := by
 unfold prt
 by_cases h : a < i
 ·rw [if_pos (Or.inl h), if_pos (Or.inl (by omega))]
 ·by_cases e : a = i
  ·rw [if_pos (c := a < i + 1 ∨ _) (Or.inl (by omega))]
   by_cases h2 : b < m
   ·rw [if_pos (Or.inr ⟨e, h2⟩)]
   ·rw [if_neg (by omega)]
    unfold fill
    rw [if_neg h2]
  ·rw [if_neg (by omega), if_neg (by omega)]
theorem prt_all (M : Nat → Nat → Int) (n a b : Nat) (ha : a < n) : prt M n 0 a b = M a b := by unfold prt; rw [if_pos (by omega)]
theorem prt_cols (M : Nat → Nat → Int) (n m b a : Nat) (hb : b < m) : prt (fill m M) n 0 a b = fill n (fun j i => M i j) b a := by
 unfold prt fill
 by_cases h : a < n
 ·rw [if_pos (by omega), if_pos hb, if_pos h]
 ·rw [if_neg (by omega), if_neg h]
noncomputable def maskD (d : PolD) (s o : ByteArray) : Nat := maskN (fun k => match d.acts[k]? with | some a => d.allowB ⟨s, o, a⟩ | none => false) d.acts.length
theorem maskD_lt (d : PolD) (s o : ByteArray) (h : d.acts.length ≤ 16) : maskD d s o < 65536 := by
 have h1 := maskN_lt (fun k => match d.acts[k]? with | some a => d.allowB ⟨s, o, a⟩ | none => false) d.acts.length
 have h2 : 2 ^ d.acts.length ≤ 2 ^ 16 := Nat.pow_le_pow_right (by omega) h
 unfold maskD
 omega
theorem alls_mask {d : PolD} {L : List S89} {f : PK → Option Int} (h : Alls d.acts L f) (hL : ∀ t, t ∈ L ↔ ((∃ y ∈ d.subs, y.f0 = t.f0) ∧ d.allowB t = true)) (ha : d.acts.length ≤ 16) {s : ByteArray} (hs : ∃ y ∈ d.subs, y.f0 = s) (o : ByteArray) : (f (s, o)).getD 0 = ((maskD d s o : Nat) : Int) := by
 obtain ⟨m, h1, _, h3⟩ := h.ok (s, o)
 rw [h1]
 congr 1
 refine Nat.eq_of_testBit_eq fun k => ?_
 rw [Bool.eq_iff_iff, h3]
 unfold maskD
 rw [maskN_bit]
 constructor
 ·rintro ⟨_, a, h5, h6⟩
  have hk : k < d.acts.length := (List.getElem?_eq_some_iff.1 h5).1
  rw [h5]
  simp [hk, ((hL _).1 h6).2]
 ·intro h4
  rw [Bool.and_eq_true, decide_eq_true_eq] at h4
  obtain ⟨h5, h6⟩ := h4
  rw [List.getElem?_eq_getElem h5] at h6
  exact ⟨by omega, _, List.getElem?_eq_getElem h5, (hL _).2 ⟨hs, h6⟩⟩
noncomputable def matD (d : PolD) (i j : Nat) : Int := ((maskD d ((d.subs.map (·.f0)).getD i ⟨#[]⟩) (d.objs.getD j ⟨#[]⟩) : Nat) : Int)
theorem u16_wf {n : Nat} (h : n < 65536) : (Lit.int .u16 ((n : Nat) : Int)).wf = true := by
 simp [Lit.wf, IntKind.min, IntKind.max, IntKind.signed, IntKind.bits]
 omega
theorem matD_u16 (d : PolD) (ha : d.acts.length ≤ 16) (i j : Nat) : (Lit.int .u16 (matD d i j)).wf = true := u16_wf (maskD_lt d _ _ ha)
theorem fill_u16 {m : Nat} {M : Nat → Nat → Int} (h : ∀ i j, (Lit.int .u16 (M i j)).wf = true) (i j : Nat) : (Lit.int .u16 (fill m M i j)).wf = true := by
 unfold fill
 split
 ·exact h i j
 ·decide
end Go.Proofs.YtdgkppldopiaoaaGreat.CSame
/- The document's Valid in plain words. -/
namespace Go.Proofs.YtdgkppldopiaoaaGreat.VPure
open Go.RowKit PG YtdgkppldopiaoaaGreatW.PrintWords YtdgkppldopiaoaaGreatW.PrintMore
open Classical
def column (ms : List (List Int)) (j : Nat) : List Int := ms.map (·.getD j 0)
def cols (ms : List (List Int)) (m : Nat) : List (List Int) := (List.range m).map (column ms)
def shapeP (b n m : Nat) (ms : List (List Int)) : Prop := ms.length = n ∧ ∀ row ∈ ms, row.length = m ∧ ∀ x ∈ row, x < 2 ^ b
def validP (la ls lo : List ByteArray) (of on : List Int) (ms : List (List Int)) : Prop :=
 la.length ≤ 16 ∧ ls.length ≤ 64 ∧ lo.length ≤ 64 ∧ of.length = ls.length ∧ on.length = lo.length ∧ (nm la).Nodup ∧ (nm ls).Nodup ∧ (nm lo).Nodup ∧
  ∃ n m : Nat, great 0 of = some (n : Int) ∧ great 0 on = some (m : Int) ∧ shapeP la.length n m ms ∧ ms.Nodup ∧ (cols ms m).Nodup
noncomputable def validB (la ls lo : List ByteArray) (of on : List Int) (ms : List (List Int)) : Bool := decide (validP la ls lo of on ms)
section
variable (la ls lo : List ByteArray) (of on : List Int) (ms : List (List Int))
theorem great_nat {l : List Int} {x : Int} (h : great 0 l = some x) : ∃ n : Nat, x = n ∧ n ≤ l.length := by
 have := great_le l 0 x h (by omega)
 exact ⟨x.toNat, by omega, by omega⟩
end
end Go.Proofs.YtdgkppldopiaoaaGreat.VPure
/- graph.Valid, walked. -/
namespace Go.Proofs.YtdgkppldopiaoaaGreat.GValid
open Go.RowKit YtdgkppldopiaoaaGreatW.PrintWords YtdgkppldopiaoaaGreatW.PrintLast YtdgkppldopiaoaaGreatW.PrintMore BMap BRow GDiffer VPure Go.Maps
theorem once_any (A : Option Addr) (c : Nat) (l : List ByteArray) (w : World) (hC : Kd.C Kd.string w A l.length l) (hc : l.length ≤ c) :
  Calls Tryz.prog 86 #[.slice A l.length c] w fun e w' => e = .returned (.bool (onceB l)) ∧ Drawn0 w w' :=
 let ⟨k, hk⟩ := (once_f l hC.2.1).rounds
 PG.graph_once.calls k A c l _ w hC hc hk
theorem counted_any (A : Option Addr) (c : Nat) (l : List Int) (w : World) (hC : Kd.C (Kd.int .i64) w A l.length l) (hc : l.length ≤ c) :
  Calls Tryz.prog 87 #[.slice A l.length c] w fun e w' => e = .returned (.tuple #[.int .i64 (told (great 0 l)).1, .bool (told (great 0 l)).2]) ∧ Below w.heap.size w w' :=
 let ⟨k, hk⟩ := (counted_f l hC.2.1).rounds
 PG.graph_counted.calls k A c l _ _ w hC hc hk
structure G where
 A0 : Option Addr
 c0 : Nat
 la : List ByteArray
 A1 : Option Addr
 c1 : Nat
 ls : List ByteArray
 A2 : Option Addr
 c2 : Nat
 lo : List ByteArray
 A3 : Option Addr
 c3 : Nat
 of : List Int
 A4 : Option Addr
 c4 : Nat
 on : List Int
 A5 : Option Addr
 c5 : Nat
 ms : List (List Int)
def G.val (g : G) : Value := .agg #[.slice g.A0 g.la.length g.c0, .slice g.A1 g.ls.length g.c1, .slice g.A2 g.lo.length g.c2, .slice g.A3 g.of.length g.c3, .slice g.A4 g.on.length g.c4, .slice g.A5 g.ms.length g.c5]
structure G.In (g : G) (w : World) : Prop where
 h0 : Kd.C Kd.string w g.A0 g.la.length g.la
 h1 : Kd.C Kd.string w g.A1 g.ls.length g.ls
 h2 : Kd.C Kd.string w g.A2 g.lo.length g.lo
 h3 : Kd.C (Kd.int .i64) w g.A3 g.of.length g.of
 h4 : Kd.C (Kd.int .i64) w g.A4 g.on.length g.on
 h5 : Kd.C (Kd.slice 175 (Kd.int .u16)) w g.A5 g.ms.length g.ms
 l0 : g.la.length ≤ g.c0
 l1 : g.ls.length ≤ g.c1
 l2 : g.lo.length ≤ g.c2
 l3 : g.of.length ≤ g.c3
 l4 : g.on.length ≤ g.c4
 l5 : g.ms.length ≤ g.c5
 u16 : ∀ row ∈ g.ms, ∀ x ∈ row, (Lit.int .u16 x).wf = true
theorem G.In.below {g : G} {w w1 : World} (h : g.In w) (hb : Below w.heap.size w w1) : g.In w1 :=
 ⟨Kd.C_below h.h0 hb, Kd.C_below h.h1 hb, Kd.C_below h.h2 hb, Kd.C_below h.h3 hb, Kd.C_below h.h4 hb, Kd.C_below h.h5 hb, h.l0, h.l1, h.l2, h.l3, h.l4, h.l5, h.u16⟩
theorem G.In.alloc {g : G} {w : World} (h : g.In w) (o : Obj) : g.In (w.alloc o) := h.below (below_alloc (Below.refl _ _) o)
theorem G.In.drewN {g : G} {w : World} (h : g.In w) (n : Nat) : g.In (w.drewN n) := h.below (pw_below_drewN (Below.refl _ _) n)
theorem G.In.drew {g : G} {w : World} (h : g.In w) : g.In w.drew := h.below (below_drew (Below.refl _ _))
theorem valid1 (g : G) (w : World) (hc : ¬ (g.la.length ≤ 16 ∧ g.ls.length ≤ 64 ∧ g.lo.length ≤ 64)) :
  Calls Tryz.prog 62 #[g.val] w fun e w' => e = .returned (.bool false) ∧ Below w.heap.size w w' := by
 unfold G.val
 by_cases c0 : g.la.length ≤ 16
 ·by_cases c1 : g.ls.length ≤ 64
  ·have c2 : ¬ g.lo.length ≤ 64 := fun c2 => hc ⟨c0, c1, c2⟩
   clear hc
   go_enter Tryz.func62, Tryz.ntmps62
   go_wp2_with fail
   go_ret
   exact ⟨rfl, (Below.refl _ _).alloc (Nat.le_refl _) _⟩
  ·clear hc
   go_enter Tryz.func62, Tryz.ntmps62
   go_wp2_with fail
   go_ret
   exact ⟨rfl, (Below.refl _ _).alloc (Nat.le_refl _) _⟩
 ·clear hc
  go_enter Tryz.func62, Tryz.ntmps62
  go_wp2_with fail
  go_ret
  exact ⟨rfl, (Below.refl _ _).alloc (Nat.le_refl _) _⟩
theorem once_go (A : Option Addr) (c : Nat) (l : List ByteArray) (w : World) (r : Bool) (hr : onceB l = r) (hC : Kd.C Kd.string w A l.length l) (hc : l.length ≤ c) :
  Calls Tryz.prog 86 #[.slice A l.length c] w fun e w' => e = .returned (.bool r) ∧ Drawn0 w w' := by
 subst hr; exact once_any A c l w hC hc
theorem counted_go (A : Option Addr) (c : Nat) (l : List Int) (w : World) (n : Int) (r : Bool) (hr : told (great 0 l) = (n, r)) (hC : Kd.C (Kd.int .i64) w A l.length l) (hc : l.length ≤ c) :
  Calls Tryz.prog 87 #[.slice A l.length c] w fun e w' => e = .returned (.tuple #[.int .i64 n, .bool r]) ∧ Below w.heap.size w w' := by
 have := counted_any A c l w hC hc
 rw [hr] at this
 exact this
theorem valid2a (g : G) (w : World) (hg : g.In w) (h0 : g.la.length ≤ 16) (h1 : g.ls.length ≤ 64) (h2 : g.lo.length ≤ 64) (b0 : onceB g.la = false) :
  Calls Tryz.prog 62 #[g.val] w fun e w' => e = .returned (.bool false) ∧ Below w.heap.size w w' := by
 unfold G.val
 have HG := jA hg
 have B0 := jA b0
 clear hg b0
 go_enter Tryz.func62, Tryz.ntmps62
 go_wp2_with (first | (go_at_call 86; (with_reducible refine (once_go g.A0 g.c0 g.la _ false B0.out ?s1 HG.out.l0).mono ?_); (case s1 => repeat (first | exact HG.out.h0 | (with_reducible refine Kd.C_alloc ?_ _) | (with_reducible refine Kd.C_drewN ?_ _) | (with_reducible refine Kd.C_drew ?_))); rintro e w' ⟨rfl, ⟨nd, rfl⟩⟩))
 go_ret
 exact ⟨rfl, pw_below_drewN ((Below.refl _ _).alloc (Nat.le_refl _) _) _⟩
theorem valid2b (g : G) (w : World) (hg : g.In w) (h0 : g.la.length ≤ 16) (h1 : g.ls.length ≤ 64) (h2 : g.lo.length ≤ 64) (b0 : onceB g.la = true) (b1 : onceB g.ls = false) :
  Calls Tryz.prog 62 #[g.val] w fun e w' => e = .returned (.bool false) ∧ Below w.heap.size w w' := by
 unfold G.val
 have HG := jA hg
 have B0 := jA b0
 have B1 := jA b1
 clear hg b0 b1
 go_enter Tryz.func62, Tryz.ntmps62
 go_wp2_with (first | (go_at_call 86; (with_reducible refine (once_go g.A0 g.c0 g.la _ true B0.out ?s1 HG.out.l0).mono ?_); (case s1 => repeat (first | exact HG.out.h0 | (with_reducible refine Kd.C_alloc ?_ _) | (with_reducible refine Kd.C_drewN ?_ _) | (with_reducible refine Kd.C_drew ?_))); rintro e w' ⟨rfl, ⟨nd, rfl⟩⟩) | (go_at_call 86; (with_reducible refine (once_go g.A1 g.c1 g.ls _ false B1.out ?s1 HG.out.l1).mono ?_); (case s1 => repeat (first | exact HG.out.h1 | (with_reducible refine Kd.C_alloc ?_ _) | (with_reducible refine Kd.C_drewN ?_ _) | (with_reducible refine Kd.C_drew ?_))); rintro e w' ⟨rfl, ⟨nd, rfl⟩⟩))
 go_ret
 exact ⟨rfl, pw_below_drewN ((Below.refl _ _).alloc (Nat.le_refl _) _) _⟩
theorem valid2c (g : G) (w : World) (hg : g.In w) (h0 : g.la.length ≤ 16) (h1 : g.ls.length ≤ 64) (h2 : g.lo.length ≤ 64) (b0 : onceB g.la = true) (b1 : onceB g.ls = true) (b2 : onceB g.lo = false) :
  Calls Tryz.prog 62 #[g.val] w fun e w' => e = .returned (.bool false) ∧ Below w.heap.size w w' := by
 unfold G.val
 have HG := jA hg
 have B0 := jA b0
 have B1 := jA b1
 have B2 := jA b2
 clear hg b0 b1 b2
 go_enter Tryz.func62, Tryz.ntmps62
 go_wp2_with (first | (go_at_call 86; (with_reducible refine (once_go g.A0 g.c0 g.la _ true B0.out ?s1 HG.out.l0).mono ?_); (case s1 => repeat (first | exact HG.out.h0 | (with_reducible refine Kd.C_alloc ?_ _) | (with_reducible refine Kd.C_drewN ?_ _) | (with_reducible refine Kd.C_drew ?_))); rintro e w' ⟨rfl, ⟨nd, rfl⟩⟩) | (go_at_call 86; (with_reducible refine (once_go g.A1 g.c1 g.ls _ true B1.out ?s1 HG.out.l1).mono ?_); (case s1 => repeat (first | exact HG.out.h1 | (with_reducible refine Kd.C_alloc ?_ _) | (with_reducible refine Kd.C_drewN ?_ _) | (with_reducible refine Kd.C_drew ?_))); rintro e w' ⟨rfl, ⟨nd, rfl⟩⟩) | (go_at_call 86; (with_reducible refine (once_go g.A2 g.c2 g.lo _ false B2.out ?s1 HG.out.l2).mono ?_); (case s1 => repeat (first | exact HG.out.h2 | (with_reducible refine Kd.C_alloc ?_ _) | (with_reducible refine Kd.C_drewN ?_ _) | (with_reducible refine Kd.C_drew ?_))); rintro e w' ⟨rfl, ⟨nd, rfl⟩⟩))
 go_ret
 exact ⟨rfl, pw_below_drewN ((Below.refl _ _).alloc (Nat.le_refl _) _) _⟩
theorem valid2d (g : G) (w : World) (hg : g.In w) (h0 : g.la.length ≤ 16) (h1 : g.ls.length ≤ 64) (h2 : g.lo.length ≤ 64) (b0 : onceB g.la = true) (b1 : onceB g.ls = true) (b2 : onceB g.lo = true) (hof : ¬ g.of.length = g.ls.length) :
  Calls Tryz.prog 62 #[g.val] w fun e w' => e = .returned (.bool false) ∧ Below w.heap.size w w' := by
 unfold G.val
 have HG := jA hg
 have B0 := jA b0
 have B1 := jA b1
 have B2 := jA b2
 clear hg b0 b1 b2
 go_enter Tryz.func62, Tryz.ntmps62
 go_wp2_with (first | (go_at_call 86; (with_reducible refine (once_go g.A0 g.c0 g.la _ true B0.out ?s1 HG.out.l0).mono ?_); (case s1 => repeat (first | exact HG.out.h0 | (with_reducible refine Kd.C_alloc ?_ _) | (with_reducible refine Kd.C_drewN ?_ _) | (with_reducible refine Kd.C_drew ?_))); rintro e w' ⟨rfl, ⟨nd, rfl⟩⟩) | (go_at_call 86; (with_reducible refine (once_go g.A1 g.c1 g.ls _ true B1.out ?s1 HG.out.l1).mono ?_); (case s1 => repeat (first | exact HG.out.h1 | (with_reducible refine Kd.C_alloc ?_ _) | (with_reducible refine Kd.C_drewN ?_ _) | (with_reducible refine Kd.C_drew ?_))); rintro e w' ⟨rfl, ⟨nd, rfl⟩⟩) | (go_at_call 86; (with_reducible refine (once_go g.A2 g.c2 g.lo _ true B2.out ?s1 HG.out.l2).mono ?_); (case s1 => repeat (first | exact HG.out.h2 | (with_reducible refine Kd.C_alloc ?_ _) | (with_reducible refine Kd.C_drewN ?_ _) | (with_reducible refine Kd.C_drew ?_))); rintro e w' ⟨rfl, ⟨nd, rfl⟩⟩))
 go_ret
 exact ⟨rfl, pw_below_drewN ((Below.refl _ _).alloc (Nat.le_refl _) _) _⟩
theorem valid2e (g : G) (w : World) (hg : g.In w) (h0 : g.la.length ≤ 16) (h1 : g.ls.length ≤ 64) (h2 : g.lo.length ≤ 64) (b0 : onceB g.la = true) (b1 : onceB g.ls = true) (b2 : onceB g.lo = true) (hof : g.of.length = g.ls.length) (hon : ¬ g.on.length = g.lo.length) :
  Calls Tryz.prog 62 #[g.val] w fun e w' => e = .returned (.bool false) ∧ Below w.heap.size w w' := by
 unfold G.val
 have HG := jA hg
 have B0 := jA b0
 have B1 := jA b1
 have B2 := jA b2
 clear hg b0 b1 b2
 go_enter Tryz.func62, Tryz.ntmps62
 go_wp2_with (first | (go_at_call 86; (with_reducible refine (once_go g.A0 g.c0 g.la _ true B0.out ?s1 HG.out.l0).mono ?_); (case s1 => repeat (first | exact HG.out.h0 | (with_reducible refine Kd.C_alloc ?_ _) | (with_reducible refine Kd.C_drewN ?_ _) | (with_reducible refine Kd.C_drew ?_))); rintro e w' ⟨rfl, ⟨nd, rfl⟩⟩) | (go_at_call 86; (with_reducible refine (once_go g.A1 g.c1 g.ls _ true B1.out ?s1 HG.out.l1).mono ?_); (case s1 => repeat (first | exact HG.out.h1 | (with_reducible refine Kd.C_alloc ?_ _) | (with_reducible refine Kd.C_drewN ?_ _) | (with_reducible refine Kd.C_drew ?_))); rintro e w' ⟨rfl, ⟨nd, rfl⟩⟩) | (go_at_call 86; (with_reducible refine (once_go g.A2 g.c2 g.lo _ true B2.out ?s1 HG.out.l2).mono ?_); (case s1 => repeat (first | exact HG.out.h2 | (with_reducible refine Kd.C_alloc ?_ _) | (with_reducible refine Kd.C_drewN ?_ _) | (with_reducible refine Kd.C_drew ?_))); rintro e w' ⟨rfl, ⟨nd, rfl⟩⟩))
 go_ret
 exact ⟨rfl, pw_below_drewN ((Below.refl _ _).alloc (Nat.le_refl _) _) _⟩
def G.cells (g : G) : Array Value := #[.slice g.A0 g.la.length g.c0, .slice g.A1 g.ls.length g.c1, .slice g.A2 g.lo.length g.c2, .slice g.A3 g.ls.length g.c3, .slice g.A4 g.lo.length g.c4, .slice g.A5 g.ms.length g.c5]
theorem counted_to (A : Option Addr) (c : Nat) (l : List Int) (w : World) (n : Int) (r : Bool) (q : Nat) (hq : l.length = q) (hr : told (great 0 l) = (n, r)) (hC : Kd.C (Kd.int .i64) w A l.length l) (hc : l.length ≤ c) :
  Calls Tryz.prog 87 #[.slice A q c] w fun e w' => e = .returned (.tuple #[.int .i64 n, .bool r]) ∧ Below w.heap.size w w' := by
 subst hq; exact counted_go A c l w n r hr hC hc
structure Boxed (g : G) (w w1 : World) : Prop where
 below : Below w.heap.size w w1
 box : w1.heap[w.heap.size]? = some (.cells g.cells 142 (0, 0))
theorem Boxed.start (g : G) (w : World) (n : Nat) : Boxed g w ((w.alloc (.cells g.cells 142)).drewN n) := ⟨pw_below_drewN ((Below.refl _ _).alloc (Nat.le_refl _) _) _, by simp only [World.heap_drewN]; exact heap_alloc_new w _⟩
theorem Boxed.go {g : G} {w w1 w2 : World} (h : Boxed g w w1) (hb : Below w1.heap.size w1 w2) : Boxed g w w2 := by
 have hlt := (Array.getElem?_eq_some_iff.1 h.box).1
 exact ⟨h.below.trans (hb.mono (Nat.le_of_lt hlt)), by rw [hb.block _ hlt]; exact h.box⟩
theorem Boxed.cell {g : G} {w w1 : World} (h : Boxed g w w1) (j : Nat) : w1.cell? ⟨w.heap.size, j, none⟩ = g.cells[j]? := by
 rw [cell_of_row _ _ _ _ _ _ h.box]
theorem Boxed.c0 {g : G} {w w1 : World} (h : Boxed g w w1) : w1.cell? ⟨w.heap.size, 0, none⟩ = some (.slice g.A0 g.la.length g.c0) := h.cell 0
theorem Boxed.c1 {g : G} {w w1 : World} (h : Boxed g w w1) : w1.cell? ⟨w.heap.size, 1, none⟩ = some (.slice g.A1 g.ls.length g.c1) := h.cell 1
theorem Boxed.c2 {g : G} {w w1 : World} (h : Boxed g w w1) : w1.cell? ⟨w.heap.size, 2, none⟩ = some (.slice g.A2 g.lo.length g.c2) := h.cell 2
theorem Boxed.c3 {g : G} {w w1 : World} (h : Boxed g w w1) : w1.cell? ⟨w.heap.size, 3, none⟩ = some (.slice g.A3 g.ls.length g.c3) := h.cell 3
theorem Boxed.c4 {g : G} {w w1 : World} (h : Boxed g w w1) : w1.cell? ⟨w.heap.size, 4, none⟩ = some (.slice g.A4 g.lo.length g.c4) := h.cell 4
theorem Boxed.c5 {g : G} {w w1 : World} (h : Boxed g w w1) : w1.cell? ⟨w.heap.size, 5, none⟩ = some (.slice g.A5 g.ms.length g.c5) := h.cell 5
theorem valid3a (g : G) (w : World) (hg : g.In w) (h0 : g.la.length ≤ 16) (h1 : g.ls.length ≤ 64) (h2 : g.lo.length ≤ 64) (b0 : onceB g.la = true) (b1 : onceB g.ls = true) (b2 : onceB g.lo = true) (hof : g.of.length = g.ls.length) (hon : g.on.length = g.lo.length) (tn tm : Int) (tok tis : Bool) (t3 : told (great 0 g.of) = (tn, tok)) (t4 : told (great 0 g.on) = (tm, tis)) (hb : tok = false) :
  Calls Tryz.prog 62 #[g.val] w fun e w' => e = .returned (.bool false) ∧ Below w.heap.size w w' := by
 unfold G.val
 have HG := jA hg
 have B0 := jA b0
 have B1 := jA b1
 have B2 := jA b2
 subst hb
 have HO3 := jA hof
 have HO4 := jA hon
 have T3 := jA t3
 have T4 := jA t4
 clear hg b0 b1 b2 t3 t4
 go_enter Tryz.func62, Tryz.ntmps62
 go_wp2_with (first | (go_at_call 86; (with_reducible refine (once_go g.A0 g.c0 g.la _ true B0.out ?s1 HG.out.l0).mono ?_); (case s1 => repeat (first | exact HG.out.h0 | (with_reducible refine Kd.C_alloc ?_ _) | (with_reducible refine Kd.C_drewN ?_ _) | (with_reducible refine Kd.C_drew ?_))); rintro e w' ⟨rfl, ⟨nd, rfl⟩⟩) | (go_at_call 86; (with_reducible refine (once_go g.A1 g.c1 g.ls _ true B1.out ?s1 HG.out.l1).mono ?_); (case s1 => repeat (first | exact HG.out.h1 | (with_reducible refine Kd.C_alloc ?_ _) | (with_reducible refine Kd.C_drewN ?_ _) | (with_reducible refine Kd.C_drew ?_))); rintro e w' ⟨rfl, ⟨nd, rfl⟩⟩) | (go_at_call 86; (with_reducible refine (once_go g.A2 g.c2 g.lo _ true B2.out ?s1 HG.out.l2).mono ?_); (case s1 => repeat (first | exact HG.out.h2 | (with_reducible refine Kd.C_alloc ?_ _) | (with_reducible refine Kd.C_drewN ?_ _) | (with_reducible refine Kd.C_drew ?_))); rintro e w' ⟨rfl, ⟨nd, rfl⟩⟩) | (go_at_call 87; (with_reducible refine (counted_to g.A3 g.c3 g.of _ tn false _ HO3.out T3.out ?s1 HG.out.l3).mono ?_); (case s1 => first | exact (HG.out.below (Boxed.start g w _).below).h3 | exact (HG.out.below (Aside0.out ‹Aside0 (Boxed g w _)›).below).h3); rintro e w2 ⟨rfl, hb2⟩; have BX := Boxed.go (Boxed.start g w _) hb2; have e5 := BX.c5; have e4 := BX.c4; have e0 := BX.c0; have BX := jA BX; clear hb2) | (go_at_call 87; (with_reducible refine (counted_to g.A4 g.c4 g.on _ tm tis _ HO4.out T4.out ?s1 HG.out.l4).mono ?_); (case s1 => first | exact (HG.out.below (Boxed.start g w _).below).h4 | exact (HG.out.below (Aside0.out ‹Aside0 (Boxed g w _)›).below).h4); rintro e w2 ⟨rfl, hb2⟩; have BX := Boxed.go (Aside0.out ‹Aside0 (Boxed g w _)›) hb2; have e5 := BX.c5; have e4 := BX.c4; have e0 := BX.c0; have BX := jA BX; clear hb2))
 go_ret
 exact ⟨rfl, (Aside0.out ‹Aside0 (Boxed g w _)›).below⟩
theorem valid3b (g : G) (w : World) (hg : g.In w) (h0 : g.la.length ≤ 16) (h1 : g.ls.length ≤ 64) (h2 : g.lo.length ≤ 64) (b0 : onceB g.la = true) (b1 : onceB g.ls = true) (b2 : onceB g.lo = true) (hof : g.of.length = g.ls.length) (hon : g.on.length = g.lo.length) (tn tm : Int) (tok tis : Bool) (t3 : told (great 0 g.of) = (tn, tok)) (t4 : told (great 0 g.on) = (tm, tis)) (ha : tok = true) (hb : tis = false) :
  Calls Tryz.prog 62 #[g.val] w fun e w' => e = .returned (.bool false) ∧ Below w.heap.size w w' := by
 unfold G.val
 have HG := jA hg
 have B0 := jA b0
 have B1 := jA b1
 have B2 := jA b2
 subst ha
 subst hb
 have HO3 := jA hof
 have HO4 := jA hon
 have T3 := jA t3
 have T4 := jA t4
 clear hg b0 b1 b2 t3 t4
 go_enter Tryz.func62, Tryz.ntmps62
 go_wp2_with (first | (go_at_call 86; (with_reducible refine (once_go g.A0 g.c0 g.la _ true B0.out ?s1 HG.out.l0).mono ?_); (case s1 => repeat (first | exact HG.out.h0 | (with_reducible refine Kd.C_alloc ?_ _) | (with_reducible refine Kd.C_drewN ?_ _) | (with_reducible refine Kd.C_drew ?_))); rintro e w' ⟨rfl, ⟨nd, rfl⟩⟩) | (go_at_call 86; (with_reducible refine (once_go g.A1 g.c1 g.ls _ true B1.out ?s1 HG.out.l1).mono ?_); (case s1 => repeat (first | exact HG.out.h1 | (with_reducible refine Kd.C_alloc ?_ _) | (with_reducible refine Kd.C_drewN ?_ _) | (with_reducible refine Kd.C_drew ?_))); rintro e w' ⟨rfl, ⟨nd, rfl⟩⟩) | (go_at_call 86; (with_reducible refine (once_go g.A2 g.c2 g.lo _ true B2.out ?s1 HG.out.l2).mono ?_); (case s1 => repeat (first | exact HG.out.h2 | (with_reducible refine Kd.C_alloc ?_ _) | (with_reducible refine Kd.C_drewN ?_ _) | (with_reducible refine Kd.C_drew ?_))); rintro e w' ⟨rfl, ⟨nd, rfl⟩⟩) | (go_at_call 87; (with_reducible refine (counted_to g.A3 g.c3 g.of _ tn true _ HO3.out T3.out ?s1 HG.out.l3).mono ?_); (case s1 => first | exact (HG.out.below (Boxed.start g w _).below).h3 | exact (HG.out.below (Aside0.out ‹Aside0 (Boxed g w _)›).below).h3); rintro e w2 ⟨rfl, hb2⟩; have BX := Boxed.go (Boxed.start g w _) hb2; have e5 := BX.c5; have e4 := BX.c4; have e0 := BX.c0; have BX := jA BX; clear hb2) | (go_at_call 87; (with_reducible refine (counted_to g.A4 g.c4 g.on _ tm false _ HO4.out T4.out ?s1 HG.out.l4).mono ?_); (case s1 => first | exact (HG.out.below (Boxed.start g w _).below).h4 | exact (HG.out.below (Aside0.out ‹Aside0 (Boxed g w _)›).below).h4); rintro e w2 ⟨rfl, hb2⟩; have BX := Boxed.go (Aside0.out ‹Aside0 (Boxed g w _)›) hb2; have e5 := BX.c5; have e4 := BX.c4; have e0 := BX.c0; have BX := jA BX; clear hb2))
 go_ret
 exact ⟨rfl, (Aside0.out ‹Aside0 (Boxed g w _)›).below⟩
theorem valid3c (g : G) (w : World) (hg : g.In w) (h0 : g.la.length ≤ 16) (h1 : g.ls.length ≤ 64) (h2 : g.lo.length ≤ 64) (b0 : onceB g.la = true) (b1 : onceB g.ls = true) (b2 : onceB g.lo = true) (hof : g.of.length = g.ls.length) (hon : g.on.length = g.lo.length) (tn tm : Int) (tok tis : Bool) (t3 : told (great 0 g.of) = (tn, tok)) (t4 : told (great 0 g.on) = (tm, tis)) (ha : tok = true) (hb : tis = true) (hn : ¬ (g.ms.length : Int) = tn) :
  Calls Tryz.prog 62 #[g.val] w fun e w' => e = .returned (.bool false) ∧ Below w.heap.size w w' := by
 unfold G.val
 have HG := jA hg
 have B0 := jA b0
 have B1 := jA b1
 have B2 := jA b2
 subst ha
 subst hb
 have HO3 := jA hof
 have HO4 := jA hon
 have T3 := jA t3
 have T4 := jA t4
 clear hg b0 b1 b2 t3 t4
 go_enter Tryz.func62, Tryz.ntmps62
 go_wp2_with (first | (go_at_call 86; (with_reducible refine (once_go g.A0 g.c0 g.la _ true B0.out ?s1 HG.out.l0).mono ?_); (case s1 => repeat (first | exact HG.out.h0 | (with_reducible refine Kd.C_alloc ?_ _) | (with_reducible refine Kd.C_drewN ?_ _) | (with_reducible refine Kd.C_drew ?_))); rintro e w' ⟨rfl, ⟨nd, rfl⟩⟩) | (go_at_call 86; (with_reducible refine (once_go g.A1 g.c1 g.ls _ true B1.out ?s1 HG.out.l1).mono ?_); (case s1 => repeat (first | exact HG.out.h1 | (with_reducible refine Kd.C_alloc ?_ _) | (with_reducible refine Kd.C_drewN ?_ _) | (with_reducible refine Kd.C_drew ?_))); rintro e w' ⟨rfl, ⟨nd, rfl⟩⟩) | (go_at_call 86; (with_reducible refine (once_go g.A2 g.c2 g.lo _ true B2.out ?s1 HG.out.l2).mono ?_); (case s1 => repeat (first | exact HG.out.h2 | (with_reducible refine Kd.C_alloc ?_ _) | (with_reducible refine Kd.C_drewN ?_ _) | (with_reducible refine Kd.C_drew ?_))); rintro e w' ⟨rfl, ⟨nd, rfl⟩⟩) | (go_at_call 87; (with_reducible refine (counted_to g.A3 g.c3 g.of _ tn true _ HO3.out T3.out ?s1 HG.out.l3).mono ?_); (case s1 => first | exact (HG.out.below (Boxed.start g w _).below).h3 | exact (HG.out.below (Aside0.out ‹Aside0 (Boxed g w _)›).below).h3); rintro e w2 ⟨rfl, hb2⟩; have BX := Boxed.go (Boxed.start g w _) hb2; have e5 := BX.c5; have e4 := BX.c4; have e0 := BX.c0; have BX := jA BX; clear hb2) | (go_at_call 87; (with_reducible refine (counted_to g.A4 g.c4 g.on _ tm true _ HO4.out T4.out ?s1 HG.out.l4).mono ?_); (case s1 => first | exact (HG.out.below (Boxed.start g w _).below).h4 | exact (HG.out.below (Aside0.out ‹Aside0 (Boxed g w _)›).below).h4); rintro e w2 ⟨rfl, hb2⟩; have BX := Boxed.go (Aside0.out ‹Aside0 (Boxed g w _)›) hb2; have e5 := BX.c5; have e4 := BX.c4; have e0 := BX.c0; have BX := jA BX; clear hb2))
 go_ret
 exact ⟨rfl, (Aside0.out ‹Aside0 (Boxed g w _)›).below⟩
end Go.Proofs.YtdgkppldopiaoaaGreat.GValid
/- Valid's end, in plain words: lines filled up to 64 masks. -/
namespace Go.Proofs.YtdgkppldopiaoaaGreat.VPure
open Go.RowKit YtdgkppldopiaoaaGreatW.PrintWords GBlk
def mat (ms : List (List Int)) (a b : Nat) : Int := (ms.getD a []).getD b 0
def partM (ms : List (List Int)) (i j a b : Nat) : Int := if a < i ∨ (a = i ∧ b < j) then mat ms a b else 0
theorem part_next (ms : List (List Int)) (i j a b : Nat) : (if a = i ∧ b = j then mat ms i j else partM ms i j a b) = partM ms i (j + 1) a b := by
 unfold partM
 by_cases h : a = i ∧ b = j
 ·obtain ⟨rfl, rfl⟩ := h
  rw [if_pos ⟨rfl, rfl⟩, if_pos (by omega)]
 ·rw [if_neg h]
  by_cases h2 : a < i ∨ (a = i ∧ b < j)
  ·rw [if_pos h2, if_pos (by omega)]
  ·rw [if_neg h2, if_neg (by omega)]
theorem part_row (ms : List (List Int)) (i j a b : Nat) (h : (ms.getD i []).length = j) : partM ms i j a b = partM ms (i + 1) 0 a b := by
 unfold partM
 by_cases h2 : a < i ∨ (a = i ∧ b < j)
 ·rw [if_pos h2, if_pos (by omega)]
 ·rw [if_neg h2]
  by_cases h3 : a < i + 1 ∨ (a = i + 1 ∧ b < 0)
  ·rw [if_pos h3]
   have : a = i := by omega
   subst this
   have hb : (ms.getD a []).length ≤ b := by omega
   unfold mat
   rw [List.getD_eq_getElem?_getD, List.getElem?_eq_none hb]; rfl
  ·rw [if_neg h3]
theorem part_zero (ms : List (List Int)) (a b : Nat) : partM ms 0 0 a b = 0 := by
 unfold partM; rw [if_neg (by omega)]
theorem getD_out {α : Type} (l : List α) (a : Nat) (d : α) (h : l.length ≤ a) : l.getD a d = d := by
 rw [List.getD_eq_getElem?_getD, List.getElem?_eq_none h]; rfl
theorem part_all (ms : List (List Int)) (a b : Nat) : partM ms ms.length 0 a b = mat ms a b := by
 unfold partM
 by_cases h : a < ms.length
 ·rw [if_pos (by omega)]
 ·rw [if_neg (by omega)]
  have e : ms.getD a [] = [] := getD_out _ _ _ (by omega)
  unfold mat
  rw [e]; rfl
theorem getD_of (ms : List (List Int)) (a : Nat) (h : a < ms.length) : ms.getD a [] = ms[a] := by simp [h]
theorem mat_u16 (ms : List (List Int)) (hu : ∀ row ∈ ms, ∀ x ∈ row, (Lit.int .u16 x).wf = true) (a b : Nat) : (Lit.int .u16 (mat ms a b)).wf = true := by
 unfold mat
 by_cases ha : a < ms.length
 ·rw [getD_of ms a ha]
  by_cases hb : b < ms[a].length
  ·have := hu _ (List.getElem_mem ha) _ (List.getElem_mem hb)
   simpa [hb] using this
  ·rw [List.getD_eq_getElem?_getD, List.getElem?_eq_none (by omega)]; rfl
 ·have e : ms.getD a [] = [] := getD_out _ _ _ (by omega)
  rw [e]; rfl
section
variable (la ls lo : List ByteArray) (of on : List Int) (ms : List (List Int)) (m : Nat)
theorem told_some {l : List Int} {x : Int} (h : told (great 0 l) = (x, true)) : great 0 l = some x := by
 unfold told at h
 cases hg : great 0 l with
 | none => rw [hg] at h; simp at h
 | some y => rw [hg] at h; simp at h; rw [h]
open Classical in
theorem valid_shape_false (t4 : told (great 0 on) = ((m : Int), true)) (i : Nat) (hi : i < ms.length) (h : ¬ ((ms.getD i []).length = m ∧ ∀ x ∈ ms.getD i [], x < 2 ^ la.length)) : validB la ls lo of on ms = false := by
 unfold validB
 refine decide_eq_false ?_
 unfold validP
 rintro ⟨-, -, -, -, -, -, -, -, n', m', -, h4, ⟨-, h5⟩, -⟩
 rw [told_some t4] at h4
 have : m = m' := by
  have := Option.some.inj h4
  omega
 subst this
 refine h (h5 _ ?_)
 rw [getD_of ms i hi]
 exact List.getElem_mem hi
theorem fill_inj {n : Nat} {a b : List Int} (ha : a.length = n) (hb : b.length = n) (hn : n ≤ 64) : ((List.range 64).map fun k => a.getD k 0) = ((List.range 64).map fun k => b.getD k 0) ↔ a = b := by
 constructor
 ·intro h
  apply List.ext_getElem (by omega)
  intro k h1 h2
  have := congrArg (fun l => l[k]?) h
  have hk : k < 64 := by omega
  simp only [List.getElem?_map, List.getElem?_range hk, Option.map_some, Option.some.injEq] at this
  simpa [h1, h2] using this
 ·rintro rfl; rfl
theorem nodup_map_iff {α β : Type} (f : α → β) : ∀ (l : List α), (∀ a ∈ l, ∀ b ∈ l, f a = f b ↔ a = b) → ((l.map f).Nodup ↔ l.Nodup)
 | [], _ => by simp
 | x :: r, h => by
  have ih := nodup_map_iff f r (fun a ha b hb => h a (by simp [ha]) b (by simp [hb]))
  simp only [List.map_cons, List.nodup_cons, ih]
  refine and_congr_left fun _ => not_congr ?_
  constructor
  ·intro hm
   obtain ⟨y, hy, e⟩ := List.mem_map.1 hm
   have := (h y (by simp [hy]) x (by simp)).1 e
   rwa [← this]
  ·intro hm; exact List.mem_map_of_mem hm
theorem rows_nodup (hrow : ∀ row ∈ ms, row.length = m) (hm : m ≤ 64) : (linesOf ms.length (mat ms)).Nodup ↔ ms.Nodup := by
 have e : linesOf ms.length (mat ms) = ms.map (fun row => (List.range 64).map fun k => row.getD k 0) := by
  unfold linesOf
  apply List.ext_getElem (by simp)
  intro k h1 h2
  have hk : k < ms.length := by simpa using h1
  simp [mat, hk]
 rw [e]
 exact nodup_map_iff _ _ (fun a ha b hb => fill_inj (hrow a ha) (hrow b hb) hm)
theorem cols_nodup (hn : ms.length ≤ 64) : (linesOf m (fun b a => mat ms a b)).Nodup ↔ (cols ms m).Nodup := by
 have e : linesOf m (fun b a => mat ms a b) = (cols ms m).map (fun row => (List.range 64).map fun k => row.getD k 0) := by
  unfold linesOf cols
  rw [List.map_map]
  apply List.map_congr_left
  intro b _
  simp only [Function.comp_def]
  apply List.map_congr_left
  intro a _
  unfold mat column
  by_cases ha : a < ms.length
  ·simp [ha]
  ·have e1 : ms.getD a [] = [] := getD_out _ _ _ (by omega)
   rw [e1, getD_out (List.map _ _) _ _ (by simp; omega)]; rfl
 rw [e]
 refine nodup_map_iff _ _ (fun a ha b hb => fill_inj (n := ms.length) ?_ ?_ hn)
 ·obtain ⟨j, -, rfl⟩ := List.mem_map.1 ha; simp [column]
 ·obtain ⟨j, -, rfl⟩ := List.mem_map.1 hb; simp [column]
open Classical in
theorem valid_fin (h0 : la.length ≤ 16) (h1 : ls.length ≤ 64) (h2 : lo.length ≤ 64) (b0 : onceB la = true) (b1 : onceB ls = true) (b2 : onceB lo = true) (hof : of.length = ls.length) (hon : on.length = lo.length)
  (t3 : told (great 0 of) = ((ms.length : Int), true)) (t4 : told (great 0 on) = ((m : Int), true)) (hn : ms.length ≤ 64) (hm : m ≤ 64)
  (hs : ∀ a, a < ms.length → (ms.getD a []).length = m ∧ ∀ x ∈ ms.getD a [], x < 2 ^ la.length) :
  (decide (linesOf ms.length (mat ms)).Nodup && decide (linesOf m (fun b a => mat ms a b)).Nodup) = validB la ls lo of on ms := by
 have hs' : ∀ row ∈ ms, row.length = m ∧ ∀ x ∈ row, x < 2 ^ la.length := by
  intro row hr
  obtain ⟨a, ha, rfl⟩ := List.getElem_of_mem hr
  have := hs a ha
  rwa [getD_of ms a ha] at this
 have e1 := rows_nodup ms m (fun row hr => (hs' row hr).1) hm
 have e2 := cols_nodup ms m hn
 unfold validB
 rw [Bool.eq_iff_iff, Bool.and_eq_true, decide_eq_true_iff, decide_eq_true_iff, decide_eq_true_iff, e1, e2]
 unfold validP
 simp only [onceB, decide_eq_true_eq] at b0 b1 b2
 constructor
 ·rintro ⟨n1, n2⟩
  exact ⟨h0, h1, h2, hof, hon, b0, b1, b2, ms.length, m, told_some t3, told_some t4, ⟨rfl, hs'⟩, n1, n2⟩
 ·rintro ⟨-, -, -, -, -, -, -, -, n', m', -, h4, -, n1, n2⟩
  rw [told_some t4] at h4
  have : m = m' := by
   have := Option.some.inj h4
   omega
  subst this
  exact ⟨n1, n2⟩
end
end Go.Proofs.YtdgkppldopiaoaaGreat.VPure
/- graph.Valid, walked: the main way. -/
namespace Go.Proofs.YtdgkppldopiaoaaGreat.GValid
open Go.RowKit YtdgkppldopiaoaaGreatW.PrintWords YtdgkppldopiaoaaGreatW.PrintLast YtdgkppldopiaoaaGreatW.PrintMore BMap BRow GDiffer GBlk VPure Go.Maps
structure St (g : G) (w wr : World) (gr gc m i j : Nat) : Prop where
 boxed : Boxed g w wr
 rows : Blk wr gr g.ms.length (partM g.ms i j)
 cols : Blk wr gc m (fun b a => partM g.ms i j a b)
 shape : ∀ a, a < i → (g.ms.getD a []).length = m ∧ ∀ x ∈ g.ms.getD a [], x < 2 ^ g.la.length
 row : ∀ b, b < j → mat g.ms i b < 2 ^ g.la.length
theorem Boxed.set {g : G} {w w1 : World} (h : Boxed g w w1) {b : Nat} (hb : w.heap.size < b) (j : Nat) (v : Value) : Boxed g w (w1.setCell ⟨b, j, none⟩ v) :=
 ⟨below_set h.below (Nat.le_of_lt hb), by rw [Below.heap_setCell _ _ _ _ (by show w.heap.size ≠ b; omega)]; exact h.box⟩
theorem St.next {g : G} {w wr : World} {gr gc m i j : Nat} (h : St g w wr gr gc m i j) (hne : gr ≠ gc) (hgr : w.heap.size < gr) (hgc : w.heap.size < gc) (hi : i < 64) (hj : j < 64) (x : Int) (hx : mat g.ms i j = x) (hlt : x < 2 ^ g.la.length) :
  St g w ((wr.setCell ⟨gr, i * 64 + j, none⟩ (.int .u16 x)).setCell ⟨gc, j * 64 + i, none⟩ (.int .u16 x)).drew gr gc m i (j + 1) where
 boxed := by
  have := (h.boxed.set hgr (i * 64 + j) (.int .u16 x)).set hgc (j * 64 + i) (.int .u16 x)
  exact ⟨this.below.drew, this.box⟩
 rows := by
  have := ((h.rows.set (i := i) hj x).far (a := ⟨gc, j * 64 + i, none⟩) (by show gr ≠ gc; exact hne) (.int .u16 x)).congr (F' := partM g.ms i (j + 1)) (fun a b _ _ => by
   subst hx; exact part_next g.ms i j a b)
  exact this
 cols := by
  have := ((h.cols.far (a := ⟨gr, i * 64 + j, none⟩) (by show gc ≠ gr; exact hne.symm) (.int .u16 x)).set (i := j) hi x).congr (F' := fun b a => partM g.ms i (j + 1) a b) (fun b a _ _ => by
   subst hx
   have := part_next g.ms i j a b
   rw [← this]
   by_cases e : a = i ∧ b = j
   ·rw [if_pos e, if_pos e.symm]
   ·rw [if_neg e, if_neg (fun k => e k.symm)])
  exact this
 shape := h.shape
 row := fun b hb => by
  by_cases e : b = j
  ·subst e; rw [hx]; exact hlt
  ·exact h.row b (by omega)
theorem St.nextRow {g : G} {w wr : World} {gr gc m i : Nat} (h : St g w wr gr gc m i m) (hm : (g.ms.getD i []).length = m) : St g w wr gr gc m (i + 1) 0 where
 boxed := h.boxed
 rows := h.rows.congr fun a b _ _ => part_row g.ms i m a b hm
 cols := h.cols.congr fun b a _ _ => part_row g.ms i m a b hm
 shape := fun a ha => by
  by_cases e : a = i
  ·subst e
   refine ⟨hm, fun x hx => ?_⟩
   obtain ⟨b, hb, rfl⟩ := List.getElem_of_mem hx
   have := h.row b (by omega)
   unfold mat at this
   have e : (g.ms.getD a []).getD b 0 = (g.ms.getD a [])[b] := by rw [List.getD_eq_getElem?_getD, List.getElem?_eq_getElem hb, Option.getD_some]
   rw [e] at this
   exact this
  ·exact h.shape a (by omega)
 row := fun b hb => by omega
theorem madeBlk (w : World) (n : Nat) : Blk (w.alloc (made n)) w.heap.size n (fun _ _ => 0) := Blk.made w n _ rfl
theorem Boxed.lt {g : G} {w w1 : World} (h : Boxed g w w1) : w.heap.size < w1.heap.size := (Array.getElem?_eq_some_iff.1 h.box).1
theorem St.made1 {g : G} {w w2 : World} (h : Boxed g w w2) (m : Nat) : St g w ((w2.alloc (made g.ms.length)).alloc (made m)).drew w2.heap.size (w2.heap.size + 1) m 0 0 where
 boxed := h.go ((((Below.refl _ _).alloc (Nat.le_refl _) _).alloc (by simp) _).drew)
 rows := ((madeBlk w2 g.ms.length).below ((Below.refl _ _).alloc (Nat.le_refl _) _).drew).congr fun a b _ _ => (part_zero g.ms a b).symm
 cols := by
  have := madeBlk (w2.alloc (made g.ms.length)) m
  rw [World.size_alloc] at this
  exact Blk.congr this.drew fun b a _ _ => (part_zero g.ms a b).symm
 shape := fun a ha => by omega
 row := fun b hb => by omega
theorem St.made2 {g : G} {w w2 : World} (h : Boxed g w w2) (m : Nat) : St g w ((w2.alloc (made m)).alloc (made g.ms.length)).drew (w2.heap.size + 1) w2.heap.size m 0 0 where
 boxed := h.go ((((Below.refl _ _).alloc (Nat.le_refl _) _).alloc (by simp) _).drew)
 cols := ((madeBlk w2 m).below ((Below.refl _ _).alloc (Nat.le_refl _) _).drew).congr fun b a _ _ => (part_zero g.ms a b).symm
 rows := by
  have := madeBlk (w2.alloc (made m)) g.ms.length
  rw [World.size_alloc] at this
  exact Blk.congr this.drew fun a b _ _ => (part_zero g.ms a b).symm
 shape := fun a ha => by omega
 row := fun b hb => by omega
theorem differ_to (A : Option Addr) (c : Nat) (ls : List (List Int)) (w : World) (n : Nat) (r : Bool) (hr : (open Classical in decide ls.Nodup) = r) (hn : ls.length = n) (hC : kLine.C w A n ls) (hok : ∀ l ∈ ls, lineOk l) :
  Calls Tryz.prog 88 #[.slice A n c] w fun e w' => e = .returned (.bool r) ∧ Below w.heap.size w w' := by
 subst hn; subst hr; exact differ_calls A c ls w hC hok
theorem valid4 (A0 : Option Addr) (c0 : Nat) (la : List ByteArray) (A1 : Option Addr) (c1 : Nat) (ls : List ByteArray) (A2 : Option Addr) (c2 : Nat) (lo : List ByteArray) (A3 : Option Addr) (c3 : Nat) (of : List Int) (A4 : Option Addr) (c4 : Nat) (on : List Int) (A5 : Option Addr) (c5 : Nat) (ms : List (List Int)) (w : World)
  (hg : (G.mk A0 c0 la A1 c1 ls A2 c2 lo A3 c3 of A4 c4 on A5 c5 ms).In w) (h0 : la.length ≤ 16) (h1 : ls.length ≤ 64) (h2 : lo.length ≤ 64) (b0 : onceB la = true) (b1 : onceB ls = true) (b2 : onceB lo = true) (hof : of.length = ls.length) (hon : on.length = lo.length)
  (m : Nat) (t3 : told (great 0 of) = ((ms.length : Int), true)) (t4 : told (great 0 on) = ((m : Int), true)) (hn64 : ms.length ≤ 64) (hm64 : m ≤ 64) :
  Calls Tryz.prog 62 #[(G.mk A0 c0 la A1 c1 ls A2 c2 lo A3 c3 of A4 c4 on A5 c5 ms).val] w fun e w' => e = .returned (.bool (validB la ls lo of on ms)) ∧ Below w.heap.size w w' := by
 unfold G.val
 have HG := jA hg
 have B0 := jA b0
 have B1 := jA b1
 have B2 := jA b2
 have HO3 := jA hof
 have HO4 := jA hon
 have T3 := jA t3
 have T4 := jA t4
 clear hg b0 b1 b2 t3 t4
 have hmk := make_lines ms.length hn64
 have hmk' := make_lines m hm64
 go_enter Tryz.func62, Tryz.ntmps62
 go_upto_region 9 with (first | (go_at_call 86; (with_reducible refine (once_go A0 c0 la _ true B0.out ?s1 HG.out.l0).mono ?_); (case s1 => repeat (first | exact HG.out.h0 | (with_reducible refine Kd.C_alloc ?_ _) | (with_reducible refine Kd.C_drewN ?_ _) | (with_reducible refine Kd.C_drew ?_))); rintro e w' ⟨rfl, ⟨nd, rfl⟩⟩) | (go_at_call 86; (with_reducible refine (once_go A1 c1 ls _ true B1.out ?s1 HG.out.l1).mono ?_); (case s1 => repeat (first | exact HG.out.h1 | (with_reducible refine Kd.C_alloc ?_ _) | (with_reducible refine Kd.C_drewN ?_ _) | (with_reducible refine Kd.C_drew ?_))); rintro e w' ⟨rfl, ⟨nd, rfl⟩⟩) | (go_at_call 86; (with_reducible refine (once_go A2 c2 lo _ true B2.out ?s1 HG.out.l2).mono ?_); (case s1 => repeat (first | exact HG.out.h2 | (with_reducible refine Kd.C_alloc ?_ _) | (with_reducible refine Kd.C_drewN ?_ _) | (with_reducible refine Kd.C_drew ?_))); rintro e w' ⟨rfl, ⟨nd, rfl⟩⟩) | (go_at_call 87; (with_reducible refine (counted_to A3 c3 of _ (ms.length : Int) true _ HO3.out T3.out ?s1 HG.out.l3).mono ?_); (case s1 => first | exact (HG.out.below (Boxed.start (G.mk A0 c0 la A1 c1 ls A2 c2 lo A3 c3 of A4 c4 on A5 c5 ms) w _).below).h3 | exact (HG.out.below (Aside0.out ‹Aside0 (Boxed (G.mk A0 c0 la A1 c1 ls A2 c2 lo A3 c3 of A4 c4 on A5 c5 ms) w _)›).below).h3); rintro e w2 ⟨rfl, hb2⟩; have BX := Boxed.go (Boxed.start (G.mk A0 c0 la A1 c1 ls A2 c2 lo A3 c3 of A4 c4 on A5 c5 ms) w _) hb2; have e5 := BX.c5; have e4 := BX.c4; have e0 := BX.c0; have BX := jA BX; clear hb2) | (go_at_call 87; (with_reducible refine (counted_to A4 c4 on _ (m : Int) true _ HO4.out T4.out ?s1 HG.out.l4).mono ?_); (case s1 => first | exact (HG.out.below (Boxed.start (G.mk A0 c0 la A1 c1 ls A2 c2 lo A3 c3 of A4 c4 on A5 c5 ms) w _).below).h4 | exact (HG.out.below (Aside0.out ‹Aside0 (Boxed (G.mk A0 c0 la A1 c1 ls A2 c2 lo A3 c3 of A4 c4 on A5 c5 ms) w _)›).below).h4); rintro e w2 ⟨rfl, hb2⟩; have BX := Boxed.go (Aside0.out ‹Aside0 (Boxed (G.mk A0 c0 la A1 c1 ls A2 c2 lo A3 c3 of A4 c4 on A5 c5 ms) w _)›) hb2; have e5 := BX.c5; have e4 := BX.c4; have e0 := BX.c0; have BX := jA BX; clear hb2))
 go_cut [7, 8] (fun v7 v8 wx => ∃ gr gc, v7 = .slice (some ⟨gr, 0, none⟩) ms.length ms.length ∧ v8 = .slice (some ⟨gc, 0, none⟩) m m ∧ gr ≠ gc ∧ w.heap.size < gr ∧ w.heap.size < gc ∧ Aside0 (St (G.mk A0 c0 la A1 c1 ls A2 c2 lo A3 c3 of A4 c4 on A5 c5 ms) w wx gr gc m 0 0))
 case first =>
  go_region
  all_goals (go_wp2_with fail; go_meet)
  all_goals first
   | exact ⟨_, _, rfl, rfl, by omega, BX.out.lt, Nat.lt_succ_of_lt BX.out.lt, ⟨St.made1 BX.out m⟩⟩
   | exact ⟨_, _, rfl, rfl, by omega, Nat.lt_succ_of_lt BX.out.lt, BX.out.lt, ⟨St.made2 BX.out m⟩⟩
 case rest =>
  obtain ⟨gr, gc, rfl, rfl, hne, hgr, hgc, hSt⟩ := hcut
  have e5 := hSt.out.boxed.c5
  simp only [] at e5
  clear hmk hmk'
  go_wp2
  go_loopw [95] (fun v wr => ∃ i : Nat, v = .int .i64 i ∧ i ≤ ms.length ∧ Aside0 (St (G.mk A0 c0 la A1 c1 ls A2 c2 lo A3 c3 of A4 c4 on A5 c5 ms) w wr gr gc m i 0)) (fun v _ => ms.length - (intOf v).toNat)
  case atStart => exact ⟨0, rfl, Nat.zero_le _, hSt⟩
  case round =>
   obtain ⟨i, rfl, hi, hR⟩ := hrel
   by_cases hlt : i < ms.length
   ·obtain ⟨ad5, Ar, cr, e5r, hxr, hlr, hCr⟩ := PG.at_L3 HG.out.h5 (i : Int) (by omega) (by simp only []; omega)
    have e5r : A5 = some ad5 := e5r
    subst e5r
    have hget : PG.rd_L3 ms (i : Int) = ms.getD i [] := by simp [PG.rd_L3]
    simp only [hget, Int.toNat_natCast] at hxr hlr hCr
    replace hxr := (hR.out.boxed.below.cell (World.block_lt_of_cell? w _ hxr)).trans hxr
    obtain ⟨L, hL⟩ : ∃ L, L = ms.getD i [] := ⟨_, rfl⟩
    rw [← hL] at hxr hlr hCr
    have HL := jA hL
    have HCr := jA hCr
    clear hL hget hCr
    have c0' : (i : Int) < ms.length := by omega
    by_cases hm : L.length = m
    ·subst hm
     go_wp2
     go_loopw [106] (fun v wr => ∃ j : Nat, v = .int .i64 j ∧ j ≤ L.length ∧ Aside0 (St (G.mk A0 c0 la A1 c1 ls A2 c2 lo A3 c3 of A4 c4 on (some ad5) c5 ms) w wr gr gc L.length i j)) (fun v _ => L.length - (intOf v).toNat)
     case atStart => exact ⟨0, rfl, Nat.zero_le _, hR⟩
     case round =>
      obtain ⟨j, rfl, hj, hRj⟩ := hrel
      by_cases hltj : j < L.length
      ·obtain ⟨adr, er, hxj⟩ := Kd.at_int HCr.out (j : Int) (by omega) (by omega)
       subst er
       simp only [Int.toNat_natCast] at hxj
       replace hxj := (hRj.out.boxed.below.cell (World.block_lt_of_cell? w _ hxj)).trans hxj
       have e5' := hRj.out.boxed.c0
       simp only [] at e5'
       have c0'' : (j : Int) < L.length := by omega
       have hu : 0 ≤ rd L (j : Int) ∧ rd L (j : Int) ≤ 65535 := by
        have := HG.out.u16 (ms.getD i []) (by simp only [List.getD_eq_getElem?_getD, List.getElem?_eq_getElem hlt, Option.getD_some]; exact List.getElem_mem hlt) (rd L (j : Int)) (by rw [← HL.out]; simp [rd, hltj])
        have h2 : IntKind.u16.min ≤ rd L (j : Int) ∧ rd L (j : Int) ≤ IntKind.u16.max := by simpa [Lit.wf] using this
        exact h2
       have hw64 : wrap64 (rd L (j : Int)) = rd L (j : Int) := by unfold wrap64; omega
       by_cases hx : rd L (j : Int) < 2 ^ la.length
       ·have hq : (wrap64 (rd L (j : Int)) / 2 ^ la.length != 0) = false := by
         rw [hw64, bne_eq_false_iff_eq]
         exact Int.ediv_eq_zero_of_lt hu.1 hx
        have HX := jA hx
        clear hx hu hw64
        have n1 : j < 64 := by omega
        have n2 : i < 64 := by omega
        have hc1 := hRj.out.rows.cell (i := i) (j := j) hlt n1
        have hc2 := hRj.out.cols.cell (i := j) (j := i) hltj n2
        have hf1 := hRj.out.rows.frozen (i * 64 + j)
        have hf2 := hRj.out.cols.frozen (j * 64 + i)
        go_upto_region 20 with fail
        go_region
        go_wp2
        go_roundw
        case rel => exact ⟨j + 1, by go_num, by omega, ⟨hRj.out.next hne hgr hgc n2 n1 _ (by rw [mat, ← HL.out]; simp [rd, hltj]) HX.out⟩⟩
        case measure => simp [intOf]; omega
       ·have hq : (wrap64 (rd L (j : Int)) / 2 ^ la.length != 0) = true := by
         rw [hw64, bne_iff_ne]
         intro e
         have hp : (0 : Int) < 2 ^ la.length := Int.pow_pos (by decide)
         have := Int.lt_ediv_add_one_mul_self (rd L (j : Int)) hp
         rw [e] at this
         omega
        have HX := jA hx
        clear hx hu hw64
        go_wp2
        go_ret
        refine ⟨?_, hRj.out.boxed.below⟩
        have hv : validB la ls lo of on ms = false := valid_shape_false la ls lo of on ms L.length T4.out i hlt ?_
        rw [hv]
        rfl
        rintro ⟨-, hh⟩
        rw [← HL.out] at hh
        exact Int.not_lt.2 HX.out (hh _ (by simp [rd, hltj]))
      ·have hjj : j = L.length := by omega
       subst hjj
       go_wp2
       go_roundw
       case rel => exact ⟨i + 1, by go_num, by omega, ⟨hRj.out.nextRow (by rw [← HL.out])⟩⟩
       case measure => simp [intOf]; omega
    ·have hmI : ¬ (L.length : Int) = (m : Int) := by omega
     have HM := jA hm
     clear hm
     go_wp2
     go_ret
     refine ⟨?_, hR.out.boxed.below⟩
     have hv : validB la ls lo of on ms = false := valid_shape_false la ls lo of on ms m T4.out i hlt ?_
     rw [hv]
     rfl
     rintro ⟨hh, -⟩
     rw [← HL.out] at hh
     exact HM.out hh
   ·have hii : i = ms.length := by omega
    subst hii
    have hRows := hR.out.rows.congr (F' := mat ms) (fun a b _ _ => part_all ms a b)
    have hCols := hR.out.cols.congr (F' := fun b a => mat ms a b) (fun b a _ _ => part_all ms a b)
    have hfin := valid_fin la ls lo of on ms m h0 h1 h2 B0.out B1.out B2.out HO3.out HO4.out T3.out T4.out hn64 hm64 hR.out.shape
    have hC1 := hRows.C (by simp only []; omega)
    have hC2 := hCols.C (by omega)
    have hK1 := linesOf_ok (n := ms.length) (F := mat ms) (fun a b _ _ => mat_u16 ms HG.out.u16 a b)
    have hK2 := linesOf_ok (n := m) (F := fun b a => mat ms a b) (fun b a _ _ => mat_u16 ms HG.out.u16 a b)
    have HC1 := jA hC1
    have HC2 := jA hC2
    have HK1 := jA hK1
    have HK2 := jA hK2
    have HFIN := jA hfin
    clear hC1 hC2 hK1 hK2 hfin hRows hCols
    obtain ⟨r1, hr1⟩ : ∃ r, (open Classical in decide (linesOf ms.length (mat ms)).Nodup) = r := ⟨_, rfl⟩
    obtain ⟨r2, hr2⟩ : ∃ r, (open Classical in decide (linesOf m (fun b a => mat ms a b)).Nodup) = r := ⟨_, rfl⟩
    have R1 := jA hr1
    have R2 := jA hr2
    clear hr1 hr2
    cases r1 <;> go_wp2_with (first | (go_at_call 88; (with_reducible refine (differ_to (some ⟨gr, 0, none⟩) ms.length (linesOf ms.length (mat ms)) _ ms.length _ R1.out (linesOf_length _ _) HC1.out HK1.out).mono ?_); rintro e w5 ⟨rfl, hb5⟩; have HB5 := jA hb5; clear hb5) | (go_at_call 88; (with_reducible refine (differ_to (some ⟨gc, 0, none⟩) m (linesOf m (fun b a => mat ms a b)) _ m r2 R2.out (linesOf_length _ _) ?s1 HK2.out).mono ?_); (case s1 => exact Kd.C_below HC2.out (Aside0.out ‹Aside0 (Below _ wr _)›)); rintro e w6 ⟨rfl, hb6⟩; have HB6 := jA hb6; clear hb6))
    ·go_ret
     refine ⟨?_, below_then hR.out.boxed.below hR.out.boxed.below.size HB5.out⟩
     have hv := HFIN.out
     rw [R1.out] at hv
     rw [← hv]
     rfl
    ·go_ret
     refine ⟨?_, below_then (below_then hR.out.boxed.below hR.out.boxed.below.size HB5.out) (Nat.le_trans hR.out.boxed.below.size HB5.out.size) HB6.out⟩
     have hv := HFIN.out
     rw [R1.out, R2.out] at hv
     rw [← hv]
     rfl
theorem onceB_cases (l : List ByteArray) : onceB l = true ∨ onceB l = false := by cases onceB l <;> simp
open Classical in
theorem valid_calls (g : G) (w : World) (hg : g.In w) :
  Calls Tryz.prog 62 #[g.val] w fun e w' => e = .returned (.bool (validB g.la g.ls g.lo g.of g.on g.ms)) ∧ Below w.heap.size w w' := by
 have hno : validB g.la g.ls g.lo g.of g.on g.ms = false → (Calls Tryz.prog 62 #[g.val] w fun e w' => e = .returned (.bool false) ∧ Below w.heap.size w w') → (Calls Tryz.prog 62 #[g.val] w fun e w' => e = .returned (.bool (validB g.la g.ls g.lo g.of g.on g.ms)) ∧ Below w.heap.size w w') := by
  intro h; rw [h]; exact id
 by_cases hc : g.la.length ≤ 16 ∧ g.ls.length ≤ 64 ∧ g.lo.length ≤ 64
 ·obtain ⟨h0, h1, h2⟩ := hc
  rcases onceB_cases g.la with b0 | b0
  ·rcases onceB_cases g.ls with b1 | b1
   ·rcases onceB_cases g.lo with b2 | b2
    ·by_cases hof : g.of.length = g.ls.length
     ·by_cases hon : g.on.length = g.lo.length
      ·obtain ⟨⟨tn, tok⟩, t3⟩ : ∃ p, told (great 0 g.of) = p := ⟨_, rfl⟩
       obtain ⟨⟨tm, tis⟩, t4⟩ : ∃ p, told (great 0 g.on) = p := ⟨_, rfl⟩
       cases tok with
       | false =>
        refine hno (decide_eq_false ?_) (valid3a g w hg h0 h1 h2 b0 b1 b2 hof hon tn tm false tis t3 t4 rfl)
        rintro ⟨-, -, -, -, -, -, -, -, n', m', e, -⟩
        rw [e] at t3; simp [told] at t3
       | true =>
        cases tis with
        | false =>
         refine hno (decide_eq_false ?_) (valid3b g w hg h0 h1 h2 b0 b1 b2 hof hon tn tm true false t3 t4 rfl rfl)
         rintro ⟨-, -, -, -, -, -, -, -, n', m', -, e, -⟩
         rw [e] at t4; simp [told] at t4
        | true =>
         by_cases hn : (g.ms.length : Int) = tn
         ·subst hn
          obtain ⟨n', hn', hn2⟩ := great_nat (told_some t3)
          obtain ⟨m', rfl, hm2⟩ := great_nat (told_some t4)
          exact valid4 g.A0 g.c0 g.la g.A1 g.c1 g.ls g.A2 g.c2 g.lo g.A3 g.c3 g.of g.A4 g.c4 g.on g.A5 g.c5 g.ms w hg h0 h1 h2 b0 b1 b2 hof hon m' t3 t4 (by omega) (by omega)
         ·refine hno (decide_eq_false ?_) (valid3c g w hg h0 h1 h2 b0 b1 b2 hof hon tn tm true true t3 t4 rfl rfl hn)
          rintro ⟨-, -, -, -, -, -, -, -, n', m', e, -, ⟨e2, -⟩, -⟩
          rw [told_some t3] at e
          have := Option.some.inj e
          omega
      ·refine hno (decide_eq_false ?_) (valid2e g w hg h0 h1 h2 b0 b1 b2 hof hon)
       rintro ⟨-, -, -, -, e, -⟩
       exact hon e
     ·refine hno (decide_eq_false ?_) (valid2d g w hg h0 h1 h2 b0 b1 b2 hof)
      rintro ⟨-, -, -, e, -⟩
      exact hof e
    ·refine hno (decide_eq_false ?_) (valid2c g w hg h0 h1 h2 b0 b1 b2)
     rintro ⟨-, -, -, -, -, -, -, e, -⟩
     exact absurd e (of_decide_eq_false b2)
   ·refine hno (decide_eq_false ?_) (valid2b g w hg h0 h1 h2 b0 b1)
    rintro ⟨-, -, -, -, -, -, e, -⟩
    exact absurd e (of_decide_eq_false b1)
  ·refine hno (decide_eq_false ?_) (valid2a g w hg h0 h1 h2 b0)
   rintro ⟨-, -, -, -, -, e, -⟩
   exact absurd e (of_decide_eq_false b0)
 ·refine hno (decide_eq_false ?_) (valid1 g w hc)
  rintro ⟨h0, h1, h2, -⟩
  exact hc ⟨h0, h1, h2⟩
end Go.Proofs.YtdgkppldopiaoaaGreat.GValid
/- graph.Compile, walked. -/
namespace Go.Proofs.YtdgkppldopiaoaaGreat.CCompile
open Go.RowKit YtdgkppldopiaoaaGreatW.PrintWords YtdgkppldopiaoaaGreatW.PrintLast YtdgkppldopiaoaaGreatW.PrintMore BMap BRow GDiffer GBlk CPure CBits CClasses CMasks CClone CSame GValid MLines MSide MPol Go.Maps
open PG
theorem z142 (w : World) : (zeroValue 142).run Tryz.prog w = .ok (.agg #[.slice none 0 0, .slice none 0 0, .slice none 0 0, .slice none 0 0, .slice none 0 0, .slice none 0 0]) w := by kernel_rfl
theorem i26 : (Tryz.prog.info? 142).map (·.size) = some 6 := by kernel_rfl
abbrev gV (v0 v1 v2 v3 v4 v5 : Value) : Array Value := #[v0, v1, v2, v3, v4, v5]
abbrev S3 (g3 gr gc : Nat) : Nat → Prop := fun b => b = g3 ∨ b = gr ∨ b = gc
structure Lp (d : PolD) (g3 gr gc : Nat) (WB wr : World) (u0 v1 u2 : Value) (ns : List ByteArray) (i j : Nat) : Prop where
 same : Same (S3 g3 gr gc) WB wr
 g : Stays wr g3 (gV u0 v1 u2 (.slice none 0 0) (.slice none 0 0) (.slice none 0 0)) 142
 r1 : Kd.R Kd.string 9 wr WB.heap.size (fun _ => True) v1 ns
 rows : Blk wr gr d.subs.length (prt (fill d.objs.length (matD d)) i j)
 cols : Blk wr gc d.objs.length (fun b a => prt (fill d.objs.length (matD d)) i j a b)
theorem blk_of {W w1 : World} {g n : Nat} {F : Nat → Nat → Int} (hB : Blk W g n F) (e : w1.heap[g]? = W.heap[g]?) : Blk w1 g n F := World.rowIs.of_block hB e
namespace Lp
variable {d : PolD} {g3 gr gc : Nat} {WB wr w1 : World} {u0 v1 u2 v' : Value} {ns ns' : List ByteArray} {i j : Nat}
theorem move (h : Lp d g3 gr gc WB wr u0 v1 u2 ns i j) (hb : Below wr.heap.size wr w1) : Lp d g3 gr gc WB w1 u0 v1 u2 ns i j :=
 ⟨h.same.move hb, h.g.below hb, Kd.R_below h.r1 hb, h.rows.below hb, h.cols.below hb⟩
theorem blk_ne {e : Nat} {base : Nat} {ok : Nat → Prop} {v : Value} {xs : List ByteArray} {W : World} (h : Kd.R Kd.string e W base ok v xs) {g n : Nat} {F : Nat → Nat → Int} (hB : Blk W g n F) (ht : e ≠ 183) : some g ≠ v.ownBlock := by
 obtain ⟨c, hb, _⟩ := hB
 exact Kd.R_ne h hb ht
theorem app (h : Lp d g3 gr gc WB wr u0 v1 u2 ns i j) (hr : Kd.R Kd.string 9 w1 WB.heap.size (fun _ => True) v' ns') (hg : wr.grownBy w1 v1.ownBlock) (n1 : gr ≠ g3) (n2 : gc ≠ g3) : Lp d g3 gr gc WB (w1.setCell ⟨g3, 1, none⟩ v') u0 v' u2 ns' i j where
 same := (h.same.grown hg (fun k hk => by
  obtain ⟨inner, ho⟩ := Kd.R_own h.r1
  exact .inr (own_base ho k hk))).set (.inl (.inl rfl)) v'
 g := stays_set ((hg.block _ (Array.getElem?_eq_some_iff.1 h.g).1 (Kd.R_ne h.r1 h.g (by decide))).trans h.g) 1 v'
 r1 := R_set hr ((hg.block _ (Array.getElem?_eq_some_iff.1 h.g).1 (Kd.R_ne h.r1 h.g (by decide))).trans h.g) (by decide) 1 v'
 rows := Blk.far (blk_of h.rows (hg.block _ h.rows.lt (blk_ne h.r1 h.rows (by decide)))) (by exact n1) v'
 cols := Blk.far (blk_of h.cols (hg.block _ h.cols.lt (blk_ne h.r1 h.cols (by decide)))) (by exact n2) v'
theorem put (h : Lp d g3 gr gc WB wr u0 v1 u2 ns i j) (n0 : gr ≠ gc) (n1 : gr ≠ g3) (n2 : gc ≠ g3) (hi : i < 64) (hj : j < 64) (x : Int) (hx : fill d.objs.length (matD d) i j = x) :
  Lp d g3 gr gc WB ((wr.setCell ⟨gr, i * 64 + j, none⟩ (.int .u16 x)).setCell ⟨gc, j * 64 + i, none⟩ (.int .u16 x)).drew u0 v1 u2 ns i (j + 1) where
 same := ((h.same.set (.inl (.inr (.inl rfl))) _).set (.inl (.inr (.inr rfl))) _).drew
 g := stays_far (stays_far h.g (by exact n1.symm) _) (by exact n2.symm) _
 r1 := by
  obtain ⟨c1, hb1, _⟩ := h.rows
  obtain ⟨c2, hb2, _⟩ := h.cols.far (a := ⟨gr, i * 64 + j, none⟩) (by show gc ≠ gr; exact n0.symm) (.int .u16 x)
  exact R_set (R_set h.r1 hb1 (by decide) _ _) hb2 (by decide) _ _
 rows := by
  have := ((h.rows.set (i := i) hj x).far (a := ⟨gc, j * 64 + i, none⟩) (by show gr ≠ gc; exact n0) (.int .u16 x)).congr (F' := prt (fill d.objs.length (matD d)) i (j + 1)) (fun a b _ _ => by
   subst hx; exact prt_next _ i j a b)
  exact this
 cols := by
  have := ((h.cols.far (a := ⟨gr, i * 64 + j, none⟩) (by show gc ≠ gr; exact n0.symm) (.int .u16 x)).set (i := j) hi x).congr (F' := fun b a => prt (fill d.objs.length (matD d)) i (j + 1) a b) (fun b a _ _ => by
   subst hx
   have := prt_next (fill d.objs.length (matD d)) i j a b
   rw [← this]
   by_cases e : a = i ∧ b = j
   ·rw [if_pos e, if_pos e.symm]
   ·rw [if_neg e, if_neg (fun k => e k.symm)])
  exact this
theorem nextRow (h : Lp d g3 gr gc WB wr u0 v1 u2 ns i d.objs.length) : Lp d g3 gr gc WB wr u0 v1 u2 ns (i + 1) 0 :=
 ⟨h.same, h.g, h.r1, h.rows.congr fun a b _ _ => prt_row _ _ i a b, h.cols.congr fun b a _ _ => prt_row _ _ i a b⟩
end Lp
theorem made_two (w2 : World) (n m : Nat) : Blk ((w2.alloc (made n)).alloc (made m)).drew w2.heap.size n (fun _ _ => 0) ∧ Blk ((w2.alloc (made n)).alloc (made m)).drew (w2.heap.size + 1) m (fun _ _ => 0) ∧ Below w2.heap.size w2 ((w2.alloc (made n)).alloc (made m)).drew := by
 refine ⟨(madeBlk w2 n).below ((Below.refl _ _).alloc (Nat.le_refl _) _).drew, ?_, below_drew (below_alloc (below_alloc (Below.refl _ _) _) _)⟩
 have := madeBlk (w2.alloc (made n)) m
 rw [World.size_alloc] at this
 exact this.drew
theorem classes_to (A : Option Addr) (c : Nat) (ls : List (List Int)) (w : World) (n : Nat) (hn : ls.length = n) (hC : kLine.C w A n ls) (hok : ∀ l ∈ ls, lineOk l) (hl : n ≤ 64) :
  Calls Tryz.prog 74 #[.slice A n c] w fun e w' => ∃ v4 v5, e = .returned (.tuple #[v4, v5]) ∧ Kd.R (Kd.int .i64) 3 w' w.heap.size (fun _ => True) v4 (numsOf ls) ∧ Kd.R (Kd.int .i64) 3 w' w.heap.size (fun _ => True) v5 (firstsOf ls) ∧ Below w.heap.size w w' := by
 subst hn; exact classes_calls A c ls w hC hok hl
theorem info174 : (Tryz.prog.info? 174).map (fun i => (i.zero, i.size, i.bytes)) = some (some (.slice none 0 0), 1, 24) := by kernel_rfl
theorem make_row (m : Nat) (hm : m ≤ 64) (w : World) : (Instr.makeSlice 174 (.int .i64 0) (.int .i64 (m : Int))).run Tryz.prog w = .ok (.slice (some ⟨w.heap.size, 0, none⟩) 0 m) (w.alloc (.cells (madeCells #[.int .u16 0] m) 175)) := by
 have h : (Tryz.prog.info? 175).map (fun i => (i.zero, i.size, i.bytes)) = some (some (.int .u16 0), 1, 2) := PG.info175
 obtain ⟨i, h1, hz⟩ := Option.map_eq_some_iff.1 h
 simp only [Prod.mk.injEq] at hz
 obtain ⟨h2, h3, h4⟩ := hz
 have := run_make (P := Tryz.prog) w 174 175 i _ Tryz.underlying174 h1 h2 .i64 .i64 0 m (by omega) (by omega) (by rw [h4]; omega) (by omega)
 rw [h3] at this
 simpa [Value.cells] using this
theorem row_none (w : World) (m : Nat) (hm : m ≤ 64) : Kd.R (Kd.int .u16) 175 (w.alloc (.cells (madeCells #[.int .u16 0] m) 175)) w.heap.size (fun _ => True) (.slice (some ⟨w.heap.size, 0, none⟩) 0 m) [] := by
 have h2 : (w.alloc (.cells (madeCells #[.int .u16 0] m) 175)).ownsRow w.heap.size 175 1 (.slice (some ⟨w.heap.size, 0, none⟩) 0 m) ([] : List Int).length (encs (Value.int .u16) []) := by
  have e : (List.replicate m (0 : Int)).length = m := by simp
  have h0 := own_made' w w.heap.size 175 .u16 m (Nat.le_refl _) (by omega)
  rw [e] at h0
  have h1 := own_take (m := 0) h0 (Nat.zero_le _)
  simpa [encs] using h1
 exact Kd.R_of_own (h1 := fun _ => rfl) h2 (fun _ _ => trivial)
abbrev S1 (g3 : Nat) : Nat → Prop := fun b => b = g3
theorem offG {α : Type} {dk : Kd α} {e base g3 : Nat} {ok : Nat → Prop} {w : World} {v : Value} {xs : List α} {cs : Array Value} (h : dk.R e w base ok v xs) (hg : Stays w g3 cs 142) (ht : ∀ q, q ∈ e :: dk.E → q ≠ 142) : dk.R e w base (fun k => ¬ S1 g3 k) v xs := Kd.R_mono (Kd.R_types h hg ht) (fun _ hk => hk.2)
structure Mk (g3 : Nat) (W wr : World) (u0 v1 u2 v4 v6 vm : Value) (ms : List (List Int)) : Prop where
 same : Same (S1 g3) W wr
 g : Stays wr g3 (gV u0 v1 u2 v4 v6 vm) 142
 ms : Kd.R (Kd.slice 175 (Kd.int .u16)) 174 wr W.heap.size (fun _ => True) vm ms
theorem types_ms : ∀ q, q ∈ 174 :: (Kd.slice 175 (Kd.int .u16)).E → q ≠ 142 := by
 intro q hq
 simp [Kd.slice, Kd.int, Kd.scalar] at hq
 omega
namespace Mk
variable {g3 : Nat} {W wr w1 : World} {u0 v1 u2 v4 v6 vm v' : Value} {ms ms' : List (List Int)}
theorem move (h : Mk g3 W wr u0 v1 u2 v4 v6 vm ms) (hb : Below wr.heap.size wr w1) : Mk g3 W w1 u0 v1 u2 v4 v6 vm ms := ⟨h.same.move hb, h.g.below hb, Kd.R_below h.ms hb⟩
theorem row {B : Nat} (h : Mk g3 W wr u0 v1 u2 v4 v6 vm ms) (hms : Kd.R (Kd.slice 175 (Kd.int .u16)) 174 wr W.heap.size (fun b => b < B) vm ms) (hB : W.heap.size ≤ B) {vr : Value} (hr : ∀ k, vr.ownBlock = some k → B ≤ k) (hg : wr.grownBy w1 vr.ownBlock) (hne : some g3 ≠ vr.ownBlock) : Mk g3 W w1 u0 v1 u2 v4 v6 vm ms ∧ Kd.R (Kd.slice 175 (Kd.int .u16)) 174 w1 W.heap.size (fun b => b < B) vm ms := by
 have h1 := Kd.R_grown hms hg (fun k hk e => by have := hr k e.symm; omega)
 exact ⟨⟨h.same.grown hg (fun k hk => .inr (Nat.le_trans hB (hr k hk))), (hg.block _ (Array.getElem?_eq_some_iff.1 h.g).1 hne).trans h.g, Kd.R_mono h1 (fun _ _ => trivial)⟩, h1⟩
theorem app (h : Mk g3 W wr u0 v1 u2 v4 v6 vm ms) (hr : Kd.R (Kd.slice 175 (Kd.int .u16)) 174 w1 W.heap.size (fun _ => True) v' ms') (hg : wr.grownBy w1 vm.ownBlock) : Mk g3 W (w1.setCell ⟨g3, 5, none⟩ v') u0 v1 u2 v4 v6 v' ms' where
 same := (h.same.grown hg (fun k hk => by
  obtain ⟨inner, ho⟩ := Kd.R_own h.ms
  exact .inr (own_base ho k hk))).set (.inl rfl) v'
 g := stays_set ((hg.block _ (Array.getElem?_eq_some_iff.1 h.g).1 (Kd.R_ne h.ms h.g (by decide))).trans h.g) 5 v'
 ms := R_set hr ((hg.block _ (Array.getElem?_eq_some_iff.1 h.g).1 (Kd.R_ne h.ms h.g (by decide))).trans h.g) types_ms 5 v'
end Mk
theorem compile_calls (p : Pol) (w : World) (hp : p.In w) (hd : p.d.Ok) (hs : p.d.subs.length ≤ 64) (ho : p.d.objs.length ≤ 64) (ha : p.d.acts.length ≤ 16) :
  Calls Tryz.prog 49 #[.agg p.cells] w fun e w' => ∃ g : G, e = .returned g.val ∧ g.In w' ∧ g.la = p.d.acts ∧ g.ls = p.d.subs.map (·.f0) ∧ g.lo = p.d.objs ∧ g.of = ofM p.d.subs.length p.d.objs.length (matD p.d) ∧ g.on = ofM p.d.objs.length p.d.subs.length (fun j i => matD p.d i j) ∧ g.ms = masksM p.d.subs.length p.d.objs.length (matD p.d) ∧ Below w.heap.size w w' := by
 obtain ⟨d, A0, c0, A1, c1, A2, c2, A3, c3, A4, c4, A5, c5, A6, c6, A7, c7, A8, c8, A9, c9, A10, c10⟩ := p
 have HP := jA hp
 have HD := jA hd
 have hs : d.subs.length ≤ 64 := hs
 have ho : d.objs.length ≤ 64 := ho
 have ha : d.acts.length ≤ 16 := ha
 clear hp hd
 have Za : Stays (w.alloc (.cells (Pol.cells (Pol.mk d A0 c0 A1 c1 A2 c2 A3 c3 A4 c4 A5 c5 A6 c6 A7 c7 A8 c8 A9 c9 A10 c10)) 82)) w.heap.size (Pol.cells (Pol.mk d A0 c0 A1 c1 A2 c2 A3 c3 A4 c4 A5 c5 A6 c6 A7 c7 A8 c8 A9 c9 A10 c10)) 82 := heap_alloc_new w _
 have e0 := Za.cell 0
 have e1 := Za.cell 1
 have e3 := Za.cell 3
 simp only [Pol.cells, Jt, Ju, Jv] at e0 e1 e3
 have HST := jA Za
 clear Za
 unfold Pol.cells
 unfold Pol.cells at HST
 simp only [] at HST e0 e1 e3 ⊢
 have hz := z142
 go_enter Tryz.func49, Tryz.ntmps49
 go_upto_region 3 with fail
 clear hz e0 e1 e3
 have hW0s : Stays ((w.alloc (.cells #[.slice A0 d.acts.length c0, .slice A1 d.subs.length c1, .slice A2 d.roles.length c2, .slice A3 d.objs.length c3, .slice A4 d.grps.length c4, .slice A5 d.mem.length c5, .slice A6 d.inh.length c6, .slice A7 d.par.length c7, .slice A8 d.wit.length c8, .slice A9 d.rules.length c9, .slice A10 d.exc.length c10] 82)).alloc (.cells #[.slice none 0 0, .slice none 0 0, .slice none 0 0, .slice none 0 0, .slice none 0 0, .slice none 0 0] 142)) w.heap.size #[.slice A0 d.acts.length c0, .slice A1 d.subs.length c1, .slice A2 d.roles.length c2, .slice A3 d.objs.length c3, .slice A4 d.grps.length c4, .slice A5 d.mem.length c5, .slice A6 d.inh.length c6, .slice A7 d.par.length c7, .slice A8 d.wit.length c8, .slice A9 d.rules.length c9, .slice A10 d.exc.length c10] 82 := HST.out.below (below_alloc (Below.refl _ _) _)
 have hW0v : Stays ((w.alloc (.cells #[.slice A0 d.acts.length c0, .slice A1 d.subs.length c1, .slice A2 d.roles.length c2, .slice A3 d.objs.length c3, .slice A4 d.grps.length c4, .slice A5 d.mem.length c5, .slice A6 d.inh.length c6, .slice A7 d.par.length c7, .slice A8 d.wit.length c8, .slice A9 d.rules.length c9, .slice A10 d.exc.length c10] 82)).alloc (.cells #[.slice none 0 0, .slice none 0 0, .slice none 0 0, .slice none 0 0, .slice none 0 0, .slice none 0 0] 142)) (w.heap.size + 1) #[.slice none 0 0, .slice none 0 0, .slice none 0 0, .slice none 0 0, .slice none 0 0, .slice none 0 0] 142 := by
  have h := heap_alloc_new (w.alloc (.cells #[.slice A0 d.acts.length c0, .slice A1 d.subs.length c1, .slice A2 d.roles.length c2, .slice A3 d.objs.length c3, .slice A4 d.grps.length c4, .slice A5 d.mem.length c5, .slice A6 d.inh.length c6, .slice A7 d.par.length c7, .slice A8 d.wit.length c8, .slice A9 d.rules.length c9, .slice A10 d.exc.length c10] 82)) (.cells #[.slice none 0 0, .slice none 0 0, .slice none 0 0, .slice none 0 0, .slice none 0 0, .slice none 0 0] 142)
  rw [show (w.alloc (.cells #[.slice A0 d.acts.length c0, .slice A1 d.subs.length c1, .slice A2 d.roles.length c2, .slice A3 d.objs.length c3, .slice A4 d.grps.length c4, .slice A5 d.mem.length c5, .slice A6 d.inh.length c6, .slice A7 d.par.length c7, .slice A8 d.wit.length c8, .slice A9 d.rules.length c9, .slice A10 d.exc.length c10] 82)).heap.size = w.heap.size + 1 from Array.size_push ..] at h
  exact h
 have hW0b : Below w.heap.size w ((w.alloc (.cells #[.slice A0 d.acts.length c0, .slice A1 d.subs.length c1, .slice A2 d.roles.length c2, .slice A3 d.objs.length c3, .slice A4 d.grps.length c4, .slice A5 d.mem.length c5, .slice A6 d.inh.length c6, .slice A7 d.par.length c7, .slice A8 d.wit.length c8, .slice A9 d.rules.length c9, .slice A10 d.exc.length c10] 82)).alloc (.cells #[.slice none 0 0, .slice none 0 0, .slice none 0 0, .slice none 0 0, .slice none 0 0, .slice none 0 0] 142)) := below_alloc (below_alloc (Below.refl _ _) _) _
 obtain ⟨W0, hW0⟩ : ∃ W0, W0 = ((w.alloc (.cells #[.slice A0 d.acts.length c0, .slice A1 d.subs.length c1, .slice A2 d.roles.length c2, .slice A3 d.objs.length c3, .slice A4 d.grps.length c4, .slice A5 d.mem.length c5, .slice A6 d.inh.length c6, .slice A7 d.par.length c7, .slice A8 d.wit.length c8, .slice A9 d.rules.length c9, .slice A10 d.exc.length c10] 82)).alloc (.cells #[.slice none 0 0, .slice none 0 0, .slice none 0 0, .slice none 0 0, .slice none 0 0, .slice none 0 0] 142)) := ⟨_, rfl⟩
 obtain ⟨gv, hgv⟩ : ∃ gv, gv = w.heap.size + 1 := ⟨_, rfl⟩
 rw [← hW0] at hW0s hW0v hW0b ⊢
 rw [← hgv] at hW0v ⊢
 have HGV := jA (show w.heap.size < gv by omega)
 have HB0 := jA hW0s
 have HV0 := jA hW0v
 have HW0 := jA hW0b
 clear hW0s hW0v hW0b hW0 hgv HST
 go_cut [3] (fun v3 wx => ∃ (g3 : Nat) (u0 u2 : Value), v3 = .pointer (some ⟨g3, 0, none⟩) ∧ Aside0 (gv < g3) ∧ Aside0 (Stays wx g3 (gV u0 (.slice none 0 0) u2 (.slice none 0 0) (.slice none 0 0) (.slice none 0 0)) 142) ∧ Aside0 (Kd.R Kd.string 9 wx w.heap.size (fun _ => True) u0 d.acts) ∧ Aside0 (Kd.R Kd.string 9 wx w.heap.size (fun _ => True) u2 d.objs) ∧ Aside0 (Below W0.heap.size W0 wx))
 case first =>
  have HB1 := jA (below_drew (Below.refl W0.heap.size W0))
  refine start_ (n := 9) (S := fun w' => w'.cell? ⟨w.heap.size, 0, none⟩ = some (.slice A0 d.acts.length c0) ∧ w'.cell? ⟨w.heap.size, 3, none⟩ = some (.slice A3 d.objs.length c3)) (ds := [8]) (Jb 9 0) (by kernel_rfl) rfl (by kernel_rfl) ⟨HB0.out.cell 0, HB0.out.cell 3⟩ (fun hHeld => ?_)
  obtain ⟨W1, hW1⟩ : ∃ W1, W1 = W0.drew := ⟨_, rfl⟩
  rw [← hW1] at hHeld HB1 ⊢
  clear hW1
  refine Jp 0 36 (Jb 9 1) rfl rfl ?_
  refine Jk 1 37 (Jb 9 3) rfl rfl hHeld (.inl ⟨by rfl, by rintro w' ⟨s0, s1⟩; go_simp; with_reducible rfl⟩) ?_
  refine Jp 3 39 (Jb 9 11) rfl rfl ?_
  refine Jk 4 40 (Jb 9 27) rfl rfl hHeld (.inl ⟨by rfl, by rintro w' ⟨s0, s1⟩; go_simp; with_reducible rfl⟩) ?_
  refine two_ (i := 2) (j := 7) (Ni := some 38) (Nj := some 3) (Jb 9 31) (Jb 9 155) rfl rfl rfl rfl (by kernel_rfl) (by decide) (by decide) (fun K hK => ?_) (fun K hK => ?_)
  ·refine goes_ Tryz.func72 (by kernel_rfl) rfl #[.slice A0 d.acts.length c0] (by rfl) rfl rfl (by (try simp only [List.map_toArray, List.map_cons, List.map_nil]); first | done | rfl) ?_
   refine (clone_calls A0 c0 d.acts _ ((HP.out.below (below_then HW0.out HW0.out.size HB1.out)).h0) (by omega)).mono ?_
   rintro e wA ⟨vv, rfl, hR, hb⟩
   obtain ⟨Ax, cx, rfl⟩ := Kd.R_slice hR
   refine ⟨_, rfl, ?_⟩
   have HB2 := jA (below_then HB1.out HB1.out.size hb)
   have HA := jA (Kd.R_lower hR (Nat.le_trans HW0.out.size HB1.out.size))
   clear hR hb
   refine hK.out _ _ ⟨pw_cell_below HB2.out (HB0.out.cell 0), pw_cell_below HB2.out (HB0.out.cell 3)⟩ (fun hHeld => ?_)
   clear hK K
   refine norm_ (a' := ?_) ?_ ?_; rotate_left; (show Act.put _ (some 38) _ = _; simp only [Act.put, Jq, Jr, Js]; rfl)
   refine two_ (i := 5) (j := 7) (Ni := some 41) (Nj := some 3) (Jb 9 63) (Jb 9 159) rfl rfl rfl rfl (by kernel_rfl) (by decide) (by decide) (fun K hK => ?_) (fun K hK => ?_)
   ·refine goes_ Tryz.func72 (by kernel_rfl) rfl #[.slice A3 d.objs.length c3] (by rfl) rfl rfl (by (try simp only [List.map_toArray, List.map_cons, List.map_nil]); first | done | rfl) ?_
    refine (clone_calls A3 c3 d.objs _ ((HP.out.below (below_then HW0.out HW0.out.size HB2.out)).h3) (by omega)).mono ?_
    rintro e wC ⟨vv, rfl, hR, hb⟩
    obtain ⟨Ay, cy, rfl⟩ := Kd.R_slice hR
    refine ⟨_, rfl, ?_⟩
    have HB3 := jA (below_then HB2.out HB2.out.size hb)
    have HA := jA (Kd.R_below HA.out hb)
    have HC := jA (Kd.R_lower hR (Nat.le_trans HW0.out.size HB2.out.size))
    clear hR hb
    refine hK.out _ _ ⟨pw_cell_below HB3.out (HB0.out.cell 0), pw_cell_below HB3.out (HB0.out.cell 3)⟩ (fun hHeld => ?_)
    clear hK K
    refine norm_ (a' := ?_) ?_ ?_; rotate_left; (show Act.put _ (some 41) _ = _; simp only [Act.put, Jq, Jr, Js]; rfl)
    refine Jp 6 42 (Jb 9 127) rfl rfl ?_
    refine one_ (i := 7) (N := some 3) (Jb 9 255) rfl rfl (by kernel_rfl) (by decide) (fun K hK => ?_)
    have hz := z142
    refine GDiffer.step_run (w' := World.alloc wC (.cells #[.slice none 0 0, .slice none 0 0, .slice none 0 0, .slice none 0 0, .slice none 0 0, .slice none 0 0] 142)) (v := .pointer (some ⟨World.heap wC |>.size, 0, none⟩)) rfl rfl (by go_simp) ?_
    clear hz
    have hs3 : Stays (World.alloc wC (.cells #[.slice none 0 0, .slice none 0 0, .slice none 0 0, .slice none 0 0, .slice none 0 0, .slice none 0 0] 142)) (World.heap wC).size #[.slice none 0 0, .slice none 0 0, .slice none 0 0, .slice none 0 0, .slice none 0 0, .slice none 0 0] 142 := heap_alloc_new wC _
    have hb := below_alloc (Below.refl _ wC) (.cells #[.slice none 0 0, .slice none 0 0, .slice none 0 0, .slice none 0 0, .slice none 0 0, .slice none 0 0] 142)
    have HB4 := jA (below_then HB3.out HB3.out.size hb)
    have hle : W0.heap.size ≤ (World.heap wC).size := HB3.out.size
    have HA := jA (Kd.R_below HA.out hb)
    have HC := jA (Kd.R_below HC.out hb)
    obtain ⟨W7, hW7⟩ : ∃ W7, W7 = World.alloc wC (.cells #[.slice none 0 0, .slice none 0 0, .slice none 0 0, .slice none 0 0, .slice none 0 0, .slice none 0 0] 142) := ⟨_, rfl⟩
    obtain ⟨g3, hg3⟩ : ∃ g3, g3 = (World.heap wC).size := ⟨_, rfl⟩
    rw [← hW7] at hs3 HB4 HA HC ⊢
    rw [← hg3] at hs3 hle ⊢
    have HS3 := jA hs3
    have HLE := jA hle
    have HG3 := jA (show gv < g3 by have := (Array.getElem?_eq_some_iff.1 HV0.out).1; omega)
    clear hs3 hb hle hW7 hg3
    refine hK.out _ _ ⟨pw_cell_below HB4.out (HB0.out.cell 0), pw_cell_below HB4.out (HB0.out.cell 3)⟩ (fun hHeld => ?_)
    clear hK K
    refine norm_ (a' := ?_) ?_ ?_; rotate_left; (show Act.put _ (some 3) _ = _; simp only [Act.put, Jq, Jr, Js]; rfl)
    refine last_ (i := 8) (N := none) (Jb 9 511) rfl rfl (by kernel_rfl) (by decide) (fun K hK => ?_)
    have hst := run_storeAt_mid (P := Tryz.prog) W7 g3 0 142 (gV (.slice Ax d.acts.length cx) (.slice none 0 0) (.slice Ay d.objs.length cy) (.slice none 0 0) (.slice none 0 0) (.slice none 0 0)) (Stays.there (cs := #[.slice none 0 0, .slice none 0 0, .slice none 0 0, .slice none 0 0, .slice none 0 0, .slice none 0 0]) HS3.out) i26 (by simp [gV, Value.oneCell'])
    refine GDiffer.step_skip (w' := World.setCells W7 g3 0 (gV (.slice Ax d.acts.length cx) (.slice none 0 0) (.slice Ay d.objs.length cy) (.slice none 0 0) (.slice none 0 0) (.slice none 0 0)).toList) rfl rfl (by first | (simp [execOp, Act.eval, hst]; done) | (show Sem.run Tryz.prog _ _ = _; simp only [execOp, Act.eval]; simp; rw [hst]; rfl)) ?_
    refine hK.out _ _ ?_
    clear hK K hst
    refine done_ (by kernel_rfl) ?_
    have hS3 := setCells_var (vs := (gV (.slice Ax d.acts.length cx) (.slice none 0 0) (.slice Ay d.objs.length cy) (.slice none 0 0) (.slice none 0 0) (.slice none 0 0))) HS3.out rfl
    have hbb := setCells_below HB4.out HLE.out (gV (.slice Ax d.acts.length cx) (.slice none 0 0) (.slice Ay d.objs.length cy) (.slice none 0 0) (.slice none 0 0) (.slice none 0 0)).toList
    have hRA := R_setCells HA.out HS3.out (by decide) (gV (.slice Ax d.acts.length cx) (.slice none 0 0) (.slice Ay d.objs.length cy) (.slice none 0 0) (.slice none 0 0) (.slice none 0 0)).toList
    have hRC := R_setCells HC.out HS3.out (by decide) (gV (.slice Ax d.acts.length cx) (.slice none 0 0) (.slice Ay d.objs.length cy) (.slice none 0 0) (.slice none 0 0) (.slice none 0 0)).toList
    have HF := jA (And.intro hS3 (And.intro hbb (And.intro hRA hRC)))
    clear hS3 hbb hRA hRC hHeld
    go_wp2
    go_meet
    exact ⟨g3, _, _, rfl, HG3, ⟨HF.out.1⟩, ⟨HF.out.2.2.1⟩, ⟨HF.out.2.2.2⟩, ⟨HF.out.2.1⟩⟩
   ·have hz := z142
    refine GDiffer.step_run (w' := World.alloc wA (.cells #[.slice none 0 0, .slice none 0 0, .slice none 0 0, .slice none 0 0, .slice none 0 0, .slice none 0 0] 142)) (v := .pointer (some ⟨World.heap wA |>.size, 0, none⟩)) rfl rfl (by go_simp) ?_
    clear hz
    have hs3 : Stays (World.alloc wA (.cells #[.slice none 0 0, .slice none 0 0, .slice none 0 0, .slice none 0 0, .slice none 0 0, .slice none 0 0] 142)) (World.heap wA).size #[.slice none 0 0, .slice none 0 0, .slice none 0 0, .slice none 0 0, .slice none 0 0, .slice none 0 0] 142 := heap_alloc_new wA _
    have hb := below_alloc (Below.refl _ wA) (.cells #[.slice none 0 0, .slice none 0 0, .slice none 0 0, .slice none 0 0, .slice none 0 0, .slice none 0 0] 142)
    have HB3 := jA (below_then HB2.out HB2.out.size hb)
    have hle : W0.heap.size ≤ (World.heap wA).size := HB2.out.size
    have HA := jA (Kd.R_below HA.out hb)
    obtain ⟨W7, hW7⟩ : ∃ W7, W7 = World.alloc wA (.cells #[.slice none 0 0, .slice none 0 0, .slice none 0 0, .slice none 0 0, .slice none 0 0, .slice none 0 0] 142) := ⟨_, rfl⟩
    obtain ⟨g3, hg3⟩ : ∃ g3, g3 = (World.heap wA).size := ⟨_, rfl⟩
    rw [← hW7] at hs3 HB3 HA ⊢
    rw [← hg3] at hs3 hle ⊢
    have HS3 := jA hs3
    have HLE := jA hle
    have HG3 := jA (show gv < g3 by have := (Array.getElem?_eq_some_iff.1 HV0.out).1; omega)
    clear hs3 hb hle hW7 hg3
    refine hK.out _ _ ⟨pw_cell_below HB3.out (HB0.out.cell 0), pw_cell_below HB3.out (HB0.out.cell 3)⟩ (fun hHeld => ?_)
    clear hK K
    refine norm_ (a' := ?_) ?_ ?_; rotate_left; (show Act.put _ (some 3) _ = _; simp only [Act.put, Jq, Jr, Js]; rfl)
    refine one_ (i := 5) (N := some 41) (Jb 9 191) rfl rfl (by kernel_rfl) (by decide) (fun K hK => ?_)
    refine goes_ Tryz.func72 (by kernel_rfl) rfl #[.slice A3 d.objs.length c3] (by rfl) rfl rfl (by (try simp only [List.map_toArray, List.map_cons, List.map_nil]); first | done | rfl) ?_
    refine (clone_calls A3 c3 d.objs _ ((HP.out.below (below_then HW0.out HW0.out.size HB3.out)).h3) (by omega)).mono ?_
    rintro e wC ⟨vv, rfl, hR, hb⟩
    obtain ⟨Ay, cy, rfl⟩ := Kd.R_slice hR
    refine ⟨_, rfl, ?_⟩
    have HB4 := jA (below_then HB3.out HB3.out.size hb)
    have HA := jA (Kd.R_below HA.out hb)
    have HS3 := jA (HS3.out.below hb)
    have HC := jA (Kd.R_lower hR (Nat.le_trans HW0.out.size HB3.out.size))
    clear hR hb
    refine hK.out _ _ ⟨pw_cell_below HB4.out (HB0.out.cell 0), pw_cell_below HB4.out (HB0.out.cell 3)⟩ (fun hHeld => ?_)
    clear hK K
    refine norm_ (a' := ?_) ?_ ?_; rotate_left; (show Act.put _ (some 41) _ = _; simp only [Act.put, Jq, Jr, Js]; rfl)
    refine Jp 6 42 (Jb 9 255) rfl rfl ?_
    refine last_ (i := 8) (N := none) (Jb 9 511) rfl rfl (by kernel_rfl) (by decide) (fun K hK => ?_)
    have hst := run_storeAt_mid (P := Tryz.prog) wC g3 0 142 (gV (.slice Ax d.acts.length cx) (.slice none 0 0) (.slice Ay d.objs.length cy) (.slice none 0 0) (.slice none 0 0) (.slice none 0 0)) (Stays.there (cs := #[.slice none 0 0, .slice none 0 0, .slice none 0 0, .slice none 0 0, .slice none 0 0, .slice none 0 0]) HS3.out) i26 (by simp [gV, Value.oneCell'])
    refine GDiffer.step_skip (w' := World.setCells wC g3 0 (gV (.slice Ax d.acts.length cx) (.slice none 0 0) (.slice Ay d.objs.length cy) (.slice none 0 0) (.slice none 0 0) (.slice none 0 0)).toList) rfl rfl (by first | (simp [execOp, Act.eval, hst]; done) | (show Sem.run Tryz.prog _ _ = _; simp only [execOp, Act.eval]; simp; rw [hst]; rfl)) ?_
    refine hK.out _ _ ?_
    clear hK K hst
    refine done_ (by kernel_rfl) ?_
    have hS3 := setCells_var (vs := (gV (.slice Ax d.acts.length cx) (.slice none 0 0) (.slice Ay d.objs.length cy) (.slice none 0 0) (.slice none 0 0) (.slice none 0 0))) HS3.out rfl
    have hbb := setCells_below HB4.out HLE.out (gV (.slice Ax d.acts.length cx) (.slice none 0 0) (.slice Ay d.objs.length cy) (.slice none 0 0) (.slice none 0 0) (.slice none 0 0)).toList
    have hRA := R_setCells HA.out HS3.out (by decide) (gV (.slice Ax d.acts.length cx) (.slice none 0 0) (.slice Ay d.objs.length cy) (.slice none 0 0) (.slice none 0 0) (.slice none 0 0)).toList
    have hRC := R_setCells HC.out HS3.out (by decide) (gV (.slice Ax d.acts.length cx) (.slice none 0 0) (.slice Ay d.objs.length cy) (.slice none 0 0) (.slice none 0 0) (.slice none 0 0)).toList
    have HF := jA (And.intro hS3 (And.intro hbb (And.intro hRA hRC)))
    clear hS3 hbb hRA hRC hHeld
    go_wp2
    go_meet
    exact ⟨g3, _, _, rfl, HG3, ⟨HF.out.1⟩, ⟨HF.out.2.2.1⟩, ⟨HF.out.2.2.2⟩, ⟨HF.out.2.1⟩⟩
  ·have hz := z142
   refine GDiffer.step_run (w' := World.alloc W1 (.cells #[.slice none 0 0, .slice none 0 0, .slice none 0 0, .slice none 0 0, .slice none 0 0, .slice none 0 0] 142)) (v := .pointer (some ⟨World.heap W1 |>.size, 0, none⟩)) rfl rfl (by go_simp) ?_
   clear hz
   have hs3 : Stays (World.alloc W1 (.cells #[.slice none 0 0, .slice none 0 0, .slice none 0 0, .slice none 0 0, .slice none 0 0, .slice none 0 0] 142)) (World.heap W1).size #[.slice none 0 0, .slice none 0 0, .slice none 0 0, .slice none 0 0, .slice none 0 0, .slice none 0 0] 142 := heap_alloc_new W1 _
   have hb := below_alloc (Below.refl _ W1) (.cells #[.slice none 0 0, .slice none 0 0, .slice none 0 0, .slice none 0 0, .slice none 0 0, .slice none 0 0] 142)
   have HB2 := jA (below_then HB1.out HB1.out.size hb)
   have hle : W0.heap.size ≤ (World.heap W1).size := HB1.out.size
   obtain ⟨W7, hW7⟩ : ∃ W7, W7 = World.alloc W1 (.cells #[.slice none 0 0, .slice none 0 0, .slice none 0 0, .slice none 0 0, .slice none 0 0, .slice none 0 0] 142) := ⟨_, rfl⟩
   obtain ⟨g3, hg3⟩ : ∃ g3, g3 = (World.heap W1).size := ⟨_, rfl⟩
   rw [← hW7] at hs3 HB2 ⊢
   rw [← hg3] at hs3 hle ⊢
   have HS3 := jA hs3
   have HLE := jA hle
   have HG3 := jA (show gv < g3 by have := (Array.getElem?_eq_some_iff.1 HV0.out).1; omega)
   clear hs3 hb hle hW7 hg3
   refine hK.out _ _ ⟨pw_cell_below HB2.out (HB0.out.cell 0), pw_cell_below HB2.out (HB0.out.cell 3)⟩ (fun hHeld => ?_)
   clear hK K
   refine norm_ (a' := ?_) ?_ ?_; rotate_left; (show Act.put _ (some 3) _ = _; simp only [Act.put, Jq, Jr, Js]; rfl)
   refine one_ (i := 2) (N := some 38) (Jb 9 159) rfl rfl (by kernel_rfl) (by decide) (fun K hK => ?_)
   refine goes_ Tryz.func72 (by kernel_rfl) rfl #[.slice A0 d.acts.length c0] (by rfl) rfl rfl (by (try simp only [List.map_toArray, List.map_cons, List.map_nil]); first | done | rfl) ?_
   refine (clone_calls A0 c0 d.acts _ ((HP.out.below (below_then HW0.out HW0.out.size HB2.out)).h0) (by omega)).mono ?_
   rintro e wA ⟨vv, rfl, hR, hb⟩
   obtain ⟨Ax, cx, rfl⟩ := Kd.R_slice hR
   refine ⟨_, rfl, ?_⟩
   have HB3 := jA (below_then HB2.out HB2.out.size hb)
   have HS3 := jA (HS3.out.below hb)
   have HA := jA (Kd.R_lower hR (Nat.le_trans HW0.out.size HB2.out.size))
   clear hR hb
   refine hK.out _ _ ⟨pw_cell_below HB3.out (HB0.out.cell 0), pw_cell_below HB3.out (HB0.out.cell 3)⟩ (fun hHeld => ?_)
   clear hK K
   refine norm_ (a' := ?_) ?_ ?_; rotate_left; (show Act.put _ (some 38) _ = _; simp only [Act.put, Jq, Jr, Js]; rfl)
   refine one_ (i := 5) (N := some 41) (Jb 9 191) rfl rfl (by kernel_rfl) (by decide) (fun K hK => ?_)
   refine goes_ Tryz.func72 (by kernel_rfl) rfl #[.slice A3 d.objs.length c3] (by rfl) rfl rfl (by (try simp only [List.map_toArray, List.map_cons, List.map_nil]); first | done | rfl) ?_
   refine (clone_calls A3 c3 d.objs _ ((HP.out.below (below_then HW0.out HW0.out.size HB3.out)).h3) (by omega)).mono ?_
   rintro e wC ⟨vv, rfl, hR, hb⟩
   obtain ⟨Ay, cy, rfl⟩ := Kd.R_slice hR
   refine ⟨_, rfl, ?_⟩
   have HB4 := jA (below_then HB3.out HB3.out.size hb)
   have HS3 := jA (HS3.out.below hb)
   have HA := jA (Kd.R_below HA.out hb)
   have HC := jA (Kd.R_lower hR (Nat.le_trans HW0.out.size HB3.out.size))
   clear hR hb
   refine hK.out _ _ ⟨pw_cell_below HB4.out (HB0.out.cell 0), pw_cell_below HB4.out (HB0.out.cell 3)⟩ (fun hHeld => ?_)
   clear hK K
   refine norm_ (a' := ?_) ?_ ?_; rotate_left; (show Act.put _ (some 41) _ = _; simp only [Act.put, Jq, Jr, Js]; rfl)
   refine Jp 6 42 (Jb 9 255) rfl rfl ?_
   refine last_ (i := 8) (N := none) (Jb 9 511) rfl rfl (by kernel_rfl) (by decide) (fun K hK => ?_)
   have hst := run_storeAt_mid (P := Tryz.prog) wC g3 0 142 (gV (.slice Ax d.acts.length cx) (.slice none 0 0) (.slice Ay d.objs.length cy) (.slice none 0 0) (.slice none 0 0) (.slice none 0 0)) (Stays.there (cs := #[.slice none 0 0, .slice none 0 0, .slice none 0 0, .slice none 0 0, .slice none 0 0, .slice none 0 0]) HS3.out) i26 (by simp [gV, Value.oneCell'])
   refine GDiffer.step_skip (w' := World.setCells wC g3 0 (gV (.slice Ax d.acts.length cx) (.slice none 0 0) (.slice Ay d.objs.length cy) (.slice none 0 0) (.slice none 0 0) (.slice none 0 0)).toList) rfl rfl (by first | (simp [execOp, Act.eval, hst]; done) | (show Sem.run Tryz.prog _ _ = _; simp only [execOp, Act.eval]; simp; rw [hst]; rfl)) ?_
   refine hK.out _ _ ?_
   clear hK K hst
   refine done_ (by kernel_rfl) ?_
   have hS3 := setCells_var (vs := (gV (.slice Ax d.acts.length cx) (.slice none 0 0) (.slice Ay d.objs.length cy) (.slice none 0 0) (.slice none 0 0) (.slice none 0 0))) HS3.out rfl
   have hbb := setCells_below HB4.out HLE.out (gV (.slice Ax d.acts.length cx) (.slice none 0 0) (.slice Ay d.objs.length cy) (.slice none 0 0) (.slice none 0 0) (.slice none 0 0)).toList
   have hRA := R_setCells HA.out HS3.out (by decide) (gV (.slice Ax d.acts.length cx) (.slice none 0 0) (.slice Ay d.objs.length cy) (.slice none 0 0) (.slice none 0 0) (.slice none 0 0)).toList
   have hRC := R_setCells HC.out HS3.out (by decide) (gV (.slice Ax d.acts.length cx) (.slice none 0 0) (.slice Ay d.objs.length cy) (.slice none 0 0) (.slice none 0 0) (.slice none 0 0)).toList
   have HF := jA (And.intro hS3 (And.intro hbb (And.intro hRA hRC)))
   clear hS3 hbb hRA hRC hHeld
   go_wp2
   go_meet
   exact ⟨g3, _, _, rfl, HG3, ⟨HF.out.1⟩, ⟨HF.out.2.2.1⟩, ⟨HF.out.2.2.2⟩, ⟨HF.out.2.1⟩⟩
 case rest =>
  obtain ⟨g3, u0, u2, rfl, HG3, HS3, HU0, HU2, HWX⟩ := hcut
  obtain ⟨wx, hwx⟩ : ∃ wx : World, wx = wc := ⟨_, rfl⟩
  subst hwx
  have HBX := jA (below_then HW0.out HW0.out.size HWX.out)
  have HB1 := jA (HB0.out.below HWX.out)
  have HV1 := jA (HV0.out.below HWX.out)
  go_upto_region 5 with (first | ((with_reducible refine gate_dst (N := 43) rfl ?_); refine wpList_load_blk rfl 82 (.tmp 1) rfl w.heap.size ?hx #[.slice A0 d.acts.length c0, .slice A1 d.subs.length c1, .slice A2 d.roles.length c2, .slice A3 d.objs.length c3, .slice A4 d.grps.length c4, .slice A5 d.mem.length c5, .slice A6 d.inh.length c6, .slice A7 d.par.length c7, .slice A8 d.wit.length c8, .slice A9 d.rules.length c9, .slice A10 d.exc.length c10] 82 HB1.out _ Tryz.underlying82 rfl i39 ?_; (case hx => rfl)) | (go_at_call 73; (refine (masks_calls (Pol.mk d A0 c0 A1 c1 A2 c2 A3 c3 A4 c4 A5 c5 A6 c6 A7 c7 A8 c8 A9 c9 A10 c10) _ (HP.out.below HBX.out) HD.out hs ho ha).mono ?_); rintro e w2 ⟨ga, f, nf, L, rfl, hM, hA, hsp, hge, hb⟩; have HB2 := jA (HB1.out.below hb); have HV2 := jA (HV1.out.below hb); have HS2 := jA (HS3.out.below hb); have HU0' := jA (Kd.R_below HU0.out hb); have HU2' := jA (Kd.R_below HU2.out hb); have HM := jA hM; have HAL := jA hA; have HSP := jA hsp; have HW2 := jA (below_then HBX.out HBX.out.size hb); clear hM hA hsp hge hb))
  clear HU0 HU2 HS3 HV1 HB1 HBX HWX
  obtain ⟨n, hn⟩ : ∃ n, n = d.subs.length := ⟨_, rfl⟩
  have e1 := HB2.out.cell 1
  have e3 := HB2.out.cell 3
  simp only [Jt, Ju, Jv] at e1 e3
  have hmk := make_lines d.subs.length hs
  have hmk' := make_lines d.objs.length ho
  clear hn n
  go_cut [5, 6] (fun v5 v6 wy => ∃ gr gc, v5 = .slice (some ⟨gr, 0, none⟩) d.subs.length d.subs.length ∧ v6 = .slice (some ⟨gc, 0, none⟩) d.objs.length d.objs.length ∧ Aside0 (gr ≠ gc) ∧ Aside0 (w2.heap.size ≤ gr) ∧ Aside0 (w2.heap.size ≤ gc) ∧ Aside0 (Blk wy gr d.subs.length (fun _ _ => 0)) ∧ Aside0 (Blk wy gc d.objs.length (fun _ _ => 0)) ∧ Aside0 (Below w2.heap.size w2 wy))
  case first =>
   have hltw : w.heap.size < w2.heap.size := (Array.getElem?_eq_some_iff.1 HB2.out).1
   have x1 := fun (o : Obj) => (HB2.out.below (below_alloc (Below.refl _ w2) o)).cell 1
   have x3 := fun (o : Obj) => (HB2.out.below (below_alloc (Below.refl _ w2) o)).cell 3
   simp only [Jt, Ju, Jv] at x1 x3
   go_region
   all_goals (go_wp2_with fail; go_meet)
   all_goals first
    | exact ⟨_, _, rfl, rfl, ⟨by omega⟩, ⟨Nat.le_refl _⟩, ⟨Nat.le_succ _⟩, ⟨(made_two w2 d.subs.length d.objs.length).1⟩, ⟨(made_two w2 d.subs.length d.objs.length).2.1⟩, ⟨(made_two w2 d.subs.length d.objs.length).2.2⟩⟩
    | exact ⟨_, _, rfl, rfl, ⟨by omega⟩, ⟨Nat.le_succ _⟩, ⟨Nat.le_refl _⟩, ⟨(made_two w2 d.objs.length d.subs.length).2.1⟩, ⟨(made_two w2 d.objs.length d.subs.length).1⟩, ⟨(made_two w2 d.objs.length d.subs.length).2.2⟩⟩
  case rest =>
   obtain ⟨gr, gc, rfl, rfl, HNE, HGR, HGC, HRR, HCC, HBY⟩ := hcut
   obtain ⟨WB, hWB⟩ : ∃ WB : World, WB = wc := ⟨_, rfl⟩
   subst hWB
   clear hmk hmk' e1 e3
   have Zx := (Array.getElem?_eq_some_iff.1 HS2.out).1
   have HN1 := jA (show gr ≠ g3 by have := HGR.out; omega)
   have HN2 := jA (show gc ≠ g3 by have := HGC.out; omega)
   have Zm := jA (show w.heap.size < w2.heap.size from (Array.getElem?_eq_some_iff.1 HB2.out).1)
   have Zn := jA (show ¬ S3 g3 gr gc w.heap.size by have h1 := HG3.out; have h2 := HGV.out; have h3 := HGR.out; have h4 := HGC.out; have h5 := Zm.out; rintro (e | e | e) <;> omega)
   have HLTV := jA (show gv < w2.heap.size from (Array.getElem?_eq_some_iff.1 HV2.out).1)
   have Zy := jA (show ¬ S3 g3 gr gc gv by have h1 := HG3.out; have h3 := HGR.out; have h4 := HGC.out; have h5 := HLTV.out; rintro (e | e | e) <;> omega)
   have HNGA := jA (show ¬ S3 g3 gr gc ga by have h1 := HM.out.lt; have h3 := HGR.out; have h4 := HGC.out; have h5 := map_ne HM.out HS2.out; rintro (e | e | e) <;> omega)
   have HB3 := jA (HB2.out.below HBY.out)
   have HV3 := jA (HV2.out.below HBY.out)
   have HM3 := jA (HM.out.below HBY.out)
   have HW3 := jA (below_then HW2.out HW2.out.size HBY.out)
   have HU0b := jA (Kd.R_mono (Kd.R_bound (Kd.R_below HU0'.out HBY.out)) (ok' := fun b => ¬ S3 g3 gr gc b) (fun k hk e => by
    obtain ⟨-, -, -, q, hq, cells, hc⟩ := hk
    have hq9 : q = 9 := by simpa [Kd.string, Kd.scalar] using hq
    subst hq9
    rcases e with e | e | e
    ·subst e; have h := HS2.out.below HBY.out; rw [show WB.heap[k]? = _ from h] at hc; cases hc
    ·subst e; obtain ⟨c, h, _⟩ := HRR.out; rw [h] at hc; cases hc
    ·subst e; obtain ⟨c, h, _⟩ := HCC.out; rw [h] at hc; cases hc))
   have HU2b := jA (Kd.R_mono (Kd.R_bound (Kd.R_below HU2'.out HBY.out)) (ok' := fun b => ¬ S3 g3 gr gc b) (fun k hk e => by
    obtain ⟨-, -, -, q, hq, cells, hc⟩ := hk
    have hq9 : q = 9 := by simpa [Kd.string, Kd.scalar] using hq
    subst hq9
    rcases e with e | e | e
    ·subst e; have h := HS2.out.below HBY.out; rw [show WB.heap[k]? = _ from h] at hc; cases hc
    ·subst e; obtain ⟨c, h, _⟩ := HRR.out; rw [h] at hc; cases hc
    ·subst e; obtain ⟨c, h, _⟩ := HCC.out; rw [h] at hc; cases hc))
   have HLP := jA (show Lp d g3 gr gc WB WB u0 (.slice none 0 0) u2 [] 0 0 from ⟨Same.refl _ _, HS2.out.below HBY.out, Kd.R_nil _ _ _ _ _, HRR.out.congr fun a b _ _ => (prt_zero _ a b).symm, HCC.out.congr fun b a _ _ => (prt_zero _ a b).symm⟩)
   clear HU0' HU2' HM HB2 HV2 HS2 HW2 HRR HCC Zx
   have e1 := HB3.out.cell 1
   simp only [Jt, Ju, Jv] at e1
   go_wp2
   clear e1
   go_loopw [56] (fun u56 wr => ∃ (i : Nat) (v1 : Value), i ≤ d.subs.length ∧ u56 = .int .i64 i ∧ Aside0 (Lp d g3 gr gc WB wr u0 v1 u2 ((d.subs.map (·.f0)).take i) i 0)) (fun u56 _ => d.subs.length - (intOf u56).toNat)
   case atStart => exact ⟨0, _, Nat.zero_le _, rfl, HLP⟩
   case round =>
    obtain ⟨i, v1, hi, rfl, HL⟩ := hrel
    have hS3w : ∀ k, S3 g3 gr gc k → w.heap.size ≤ k := fun k hk => by
     have h1 := HG3.out; have h2 := HGV.out; have h3 := HGR.out; have h4 := HGC.out; have h5 := Zm.out
     rcases hk with e | e | e <;> omega
    have HSW := jA hS3w
    clear hS3w
    have hpin := HP.out.below (HL.out.same.below HW3.out HSW.out)
    by_cases hlt : i < d.subs.length
    ·obtain ⟨ad, ea, hx0, hx1⟩ := at_T146 hpin.h1 (i : Int) (by omega) (by simp only []; omega)
     have hget : rd_T146 d.subs (i : Int) = d.subs[i] := by simp [rd_T146, hlt]
     simp only [hget, Int.toNat_natCast] at hx0 hx1
     have ea : A1 = some ad := ea
     subst ea
     have htk : (d.subs.map (·.f0)).take (i + 1) = (d.subs.map (·.f0)).take i ++ [d.subs[i].f0] := by
      have h := List.take_succ_eq_append_getElem (l := d.subs.map (·.f0)) (i := i) (by simpa using hlt)
      simpa using h
     have hnm : (d.subs.map (·.f0)).getD i ⟨#[]⟩ = d.subs[i].f0 := by simp [hlt]
     have hin : d.subs[i] ∈ d.subs := List.getElem_mem hlt
     have hlen : ((d.subs.map (·.f0)).take i).length = i := by rw [List.length_take, List.length_map]; omega
     obtain ⟨x, hxx⟩ : ∃ x, x = d.subs[i] := ⟨_, rfl⟩
     rw [← hxx] at hx0 hx1 htk hin hnm
     have HTK := jA htk
     have HIN := jA hin
     have HNM := jA hnm
     have HLIM := jA (show (((d.subs.map (·.f0)).take i).length + 1) * 16 ≤ 140737488355328 by omega)
     have c0' : (i : Int) < d.subs.length := by omega
     have hcw : ∀ (j : Nat) (v : Value), ([.string x.f0, .float .f64 x.f1] : List Value)[j]? = some v → wr.cell? ((ad.add (i * 2)).add j) = some v := by
      intro j v hj
      have hj2 : j < 2 := (List.getElem?_eq_some_iff.1 hj).1
      have : j = 0 ∨ j = 1 := by omega
      rcases this with rfl | rfl
      ·obtain rfl : Value.string x.f0 = v := by simpa using hj
       rw [Addr.add_zero']; exact hx0
      ·obtain rfl : Value.float .f64 x.f1 = v := by simpa using hj
       rw [add_add, add_field _ _ 1 (by omega)]; exact hx1
     have HCW := jA hcw
     obtain ⟨ns, hns⟩ : ∃ ns, ns = (d.subs.map (·.f0)).take i := ⟨_, rfl⟩
     rw [← hns] at HTK HL HLIM
     have hz := MPol.z146
     clear hx0 hx1 hget htk hin hxx hcw hpin hnm hlen hns
     go_upto_region 9 with (first | ((with_reducible refine gate_dst (N := 60) rfl ?_); refine wpList_load_at rfl 146 (.tmp 59) rfl (ad.add (i * 2)) ?hx [.string x.f0, .float .f64 x.f1] HCW.out _ Tryz.underlying146 rfl i54 ?_; (case hx => rfl)) | ((with_reducible refine gate_store (t := 146) (p := 8) (v := .tmp 60) rfl ?_); refine wpList_store_var rfl 146 (.tmp 8) (.tmp 60) rfl wr.heap.size #[.string x.f0, .float .f64 x.f1] ?hx ?hy (cs := #[.string ⟨#[]⟩, .float .f64 0]) (t := 146) (heap_alloc_new wr _) rfl i54 (by simp [Value.oneCell']) ?_; (case hx => rfl); (case hy => rfl)))
     (try simp only [Act.put])
     clear hz
     have hb2 : Below wr.heap.size wr ((wr.alloc (.cells #[.string ⟨#[]⟩, .float .f64 0] 146)).setCells wr.heap.size 0 [.string x.f0, .float .f64 x.f1]) := setCells_below (below_alloc (Below.refl _ _) _) (Nat.le_refl _) _
     have hS2 : Stays ((wr.alloc (.cells #[.string ⟨#[]⟩, .float .f64 0] 146)).setCells wr.heap.size 0 [.string x.f0, .float .f64 x.f1]) wr.heap.size #[.string x.f0, .float .f64 x.f1] 146 := setCells_var (vs := #[.string x.f0, .float .f64 x.f1]) (heap_alloc_new wr _) rfl
     have hL2 := HL.out.move hb2
     obtain ⟨W2, hW2⟩ : ∃ W2, W2 = ((wr.alloc (.cells #[.string ⟨#[]⟩, .float .f64 0] 146)).setCells wr.heap.size 0 [.string x.f0, .float .f64 x.f1]) := ⟨_, rfl⟩
     obtain ⟨g8, hg8⟩ : ∃ g8, g8 = wr.heap.size := ⟨_, rfl⟩
     have hg8s : WB.heap.size ≤ g8 := by rw [hg8]; exact HL.out.same.size
     rw [← hW2] at hS2 hL2 ⊢
     rw [← hg8] at hS2 ⊢
     have HS8 := jA hS2
     have HL2 := jA hL2
     have HG8 := jA hg8s
     have x8 := hS2.cell 0
     simp only [List.getElem?_toArray, List.getElem?_cons_zero] at x8
     have x3 := hL2.g.cell 1
     simp only [gV, Jt, Ju, Jv] at x3
     clear hb2 hS2 hL2 hW2 hg8 hg8s HL
     go_upto_region 10 with (first | ((with_reducible refine gate_builtin (b := .append) (xs := #[.tmp 62, .tmp 65]) rfl ?_); at_builtin; refine Kd.R_append Kd.string (w0 := W2) WB.heap.size rfl (.tmp 62) (.tmp 65) 76 9 (.string ⟨#[]⟩) 16 rfl Tryz.underlying76 info9 rfl (by decide) (by decide) v1 ns x.f0 [.string x.f0] (fun _ => True) (fun _ => False) rfl rfl rfl (fun _ hk => hk.elim) (fun _ _ => trivial) HL2.out.r1 (Below.refl _ _) HL2.out.same.size HLIM.out ?_; intro v9 w9 hR9 hB9 hg9 Zf; have HL9 := jA (HL2.out.app hR9 hg9 HN1.out HN2.out); have HS9 := jA (show Stays w9 g8 #[.string x.f0, .float .f64 x.f1] 146 from (hg9.block _ (Array.getElem?_eq_some_iff.1 HS8.out).1 (Kd.R_ne HL2.out.r1 HS8.out (by decide))).trans HS8.out); have hG9 : Stays w9 g3 (gV u0 v1 u2 (.slice none 0 0) (.slice none 0 0) (.slice none 0 0)) 142 := (hg9.block _ (Array.getElem?_eq_some_iff.1 HL2.out.g).1 (Kd.R_ne HL2.out.r1 HL2.out.g (by decide))).trans HL2.out.g; have x9 := hG9.cell 1; simp only [gV, Jt, Ju, Jv] at x9; have f9 : w9.frozen? ⟨g3, 1, none⟩ = false := frozen_of_row _ _ _ _ _ hG9; obtain ⟨A9x, c9x, e9⟩ := Kd.R_slice hR9; obtain ⟨nn, hnn⟩ : ∃ nn, nn = (ns ++ [x.f0]).length := ⟨_, rfl⟩; rw [← hnn] at e9; subst e9; clear hR9 hB9 hg9 Zf hG9 hnn))
     clear x8 x3 x9 f9
     have HN8 := jA (show g8 ≠ g3 by have h1 := HG8.out; have h2 := (Array.getElem?_eq_some_iff.1 HLP.out.g).1; omega)
     have Zc := stays_far HS9.out (a := ⟨g3, 1, none⟩) (by exact HN8.out) (.slice A9x nn c9x)
     have Zb := HL9.out
     rw [← HTK.out] at Zb
     obtain ⟨v10, Zo⟩ : ∃ v10, v10 = Value.slice A9x nn c9x := ⟨_, rfl⟩
     rw [← Zo] at Zb Zc ⊢
     obtain ⟨W10, Zp⟩ : ∃ W10, W10 = w9.setCell ⟨g3, 1, none⟩ v10 := ⟨_, rfl⟩
     rw [← Zp] at Zb Zc ⊢
     have Zq := jA Zb
     have Zz := jA Zc
     clear Zb Zc Zo Zp HL9 HS9 HS8 HL2 HLIM HTK
     have e3 := (Zq.out.same.stays HB3.out Zn.out).cell 3
     simp only [Jt, Ju, Jv] at e3
     go_wp2
     clear e3
     go_loopw [71] (fun u71 wr => ∃ j : Nat, j ≤ d.objs.length ∧ u71 = .int .i64 j ∧ Aside0 (Lp d g3 gr gc WB wr u0 v10 u2 ((d.subs.map (·.f0)).take (i + 1)) i j) ∧ Aside0 (Stays wr g8 #[.string x.f0, .float .f64 x.f1] 146)) (fun u71 _ => d.objs.length - (intOf u71).toNat)
     case atStart => exact ⟨0, Nat.zero_le _, rfl, Zq, Zz⟩
     case round =>
      obtain ⟨j, hj, rfl, HLj, HSj⟩ := hrel
      have hpin := HP.out.below (HLj.out.same.below HW3.out HSW.out)
      by_cases hltj : j < d.objs.length
      ·obtain ⟨ado, eo, hxo⟩ := Kd.at_string hpin.h3 (j : Int) (by omega) (by simp only []; omega)
       have eo : A3 = some ado := eo
       subst eo
       have hget : rdOf ByteArray.empty d.objs (j : Int) = d.objs[j] := by simp [rdOf, hltj]
       simp only [hget, Int.toNat_natCast] at hxo
       have hom : d.objs.getD j ⟨#[]⟩ = d.objs[j] := by simp [hltj]
       have hoin : d.objs[j] ∈ d.objs := List.getElem_mem hltj
       obtain ⟨o, hoo⟩ : ∃ o, o = d.objs[j] := ⟨_, rfl⟩
       rw [← hoo] at hxo hom hoin
       have hval := alls_mask HAL.out HSP.out ha ⟨x, HIN.out, rfl⟩ o
       have hq : fill d.objs.length (matD d) i j = ((maskD d x.f0 o : Nat) : Int) := by
        unfold fill matD
        rw [if_pos hltj, HNM.out, hom]
       have hlk := pair_look (HLj.out.same.map HM3.out HNGA.out) (p := (x.f0, o)) ⟨HD.out.subs x HIN.out, HD.out.objs o hoin⟩
       rw [hval] at hlk
       simp only [] at hlk
       obtain ⟨q, hqe⟩ : ∃ q : Int, q = ((maskD d x.f0 o : Nat) : Int) := ⟨_, rfl⟩
       rw [← hqe] at hlk hq
       have HQ := jA hq
       have x8 := HSj.out.cell 0
       simp only [List.getElem?_toArray, List.getElem?_cons_zero] at x8
       have c0'' : (j : Int) < d.objs.length := by omega
       clear hpin hget hom hoin hoo hval hqe hq
       go_upto_region 14 with fail
       clear hlk x8 hxo
       have n1 : j < 64 := by omega
       have n2 : i < 64 := by omega
       have hc1 := HLj.out.rows.cell (i := i) (j := j) hlt n1
       have hc2 := HLj.out.cols.cell (i := j) (j := i) hltj n2
       have hf1 := HLj.out.rows.frozen (i * 64 + j)
       have hf2 := HLj.out.cols.frozen (j * 64 + i)
       have hne := HNE.out
       go_region
       go_wp2
       go_roundw
       case rel => exact ⟨j + 1, by omega, by go_num, ⟨HLj.out.put HNE.out HN1.out HN2.out n2 n1 q HQ.out⟩, ⟨stays_far (stays_far HSj.out (by show g8 ≠ gr; have h1 := HG8.out; have h2 := HLP.out.rows.lt; omega) _) (by show g8 ≠ gc; have h1 := HG8.out; have h2 := HLP.out.cols.lt; omega) _⟩⟩
       case measure => simp [intOf]; omega
      ·have hjj : j = d.objs.length := by omega
       subst hjj
       clear hpin
       go_wp2
       go_roundw
       case rel => exact ⟨i + 1, v10, by omega, by go_num, ⟨HLj.out.nextRow⟩⟩
       case measure => simp [intOf]; omega
    ·have hii : i = d.subs.length := by omega
     subst hii
     have hl := HL.out
     rw [List.take_of_length_le (by simp)] at hl
     have HLF := jA hl
     clear hl HL hpin
     obtain ⟨w5, hw5⟩ : ∃ w5, w5 = wr := ⟨_, rfl⟩
     subst hw5
     have hRows : Blk w5 gr d.subs.length (fill d.objs.length (matD d)) := HLF.out.rows.congr fun a b h _ => prt_all _ _ a b h
     have hCols : Blk w5 gc d.objs.length (fill d.subs.length (fun j i => matD d i j)) := HLF.out.cols.congr fun b a h _ => prt_cols _ _ _ b a h
     have HRW := jA hRows
     have HCL := jA hCols
     have HW5 := jA (HLF.out.same.below HW3.out HSW.out)
     have HW3' := jA HW3.out.size
     have HV5 := jA (HLF.out.same.stays HV3.out Zy.out)
     have HG5 := jA HLF.out.g
     have HU0c := jA (HLF.out.same.toR HU0b.out (fun _ h => h))
     have HU2c := jA (HLF.out.same.toR HU2b.out (fun _ h => h))
     have HU1c := jA HLF.out.r1
     have HRC := jA (Blk.C hRows (by omega))
     have HRK := jA (linesOf_ok (n := d.subs.length) (F := fill d.objs.length (matD d)) (fun a b _ _ => fill_u16 (matD_u16 d ha) a b))
     clear hRows hCols HLF HLP HB3 HV3 HU0b HU2b HW3 HBY HSW HM3 HAL HSP HGC HNGA Zn
     go_upto_region 19 with (first | (go_at_call 74; ((with_reducible refine (classes_to (some ⟨gr, 0, none⟩) d.subs.length (linesOf d.subs.length (fill d.objs.length (matD d))) _ d.subs.length (linesOf_length _ _) HRC.out HRK.out hs).mono ?_)); rintro e w6 ⟨v4, v5, rfl, hr4, hr5, hb⟩; obtain ⟨A4', c4', e4⟩ := Kd.R_slice hr4; obtain ⟨A5', c5', e5⟩ := Kd.R_slice hr5; obtain ⟨n4, hn4⟩ : ∃ n4, n4 = (numsOf (linesOf d.subs.length (fill d.objs.length (matD d)))).length := ⟨_, rfl⟩; obtain ⟨n5, hn5⟩ : ∃ n5, n5 = (firstsOf (linesOf d.subs.length (fill d.objs.length (matD d)))).length := ⟨_, rfl⟩; rw [← hn4] at e4; rw [← hn5] at e5; subst e4; subst e5; have hG6 := HG5.out.below hb; have x9 := hG6.cell 3; simp only [gV, Jt, Ju, Jv] at x9; have f9 : w6.frozen? ⟨g3, 3, none⟩ = false := frozen_of_row _ _ _ _ _ hG6; have HG6 := jA hG6; have HR4 := jA hr4; have HR5 := jA hr5; have HB6 := jA hb; have HN5 := jA hn5; clear hr4 hr5 hb hG6 hn4 hn5))
     clear x9 f9
     have hg6 := stays_set HG6.out 3 (.slice A4' n4 c4')
     have hg6 : Stays (w6.setCell ⟨g3, 3, none⟩ (.slice A4' n4 c4')) g3 (gV u0 v1 u2 (.slice A4' n4 c4') (.slice none 0 0) (.slice none 0 0)) 142 := hg6
     have hs6 := (Same.of_below (S := S1 g3) HB6.out).set (a := ⟨g3, 3, none⟩) (.inl rfl) (.slice A4' n4 c4')
     have hr4 := R_set HR4.out HG6.out (by decide) 3 (.slice A4' n4 c4')
     have hr5 := R_set HR5.out HG6.out (by decide) 3 (.slice A4' n4 c4')
     obtain ⟨v4, hv4⟩ : ∃ v4, v4 = Value.slice A4' n4 c4' := ⟨_, rfl⟩
     rw [← hv4] at hg6 hs6 hr4 hr5 ⊢
     obtain ⟨W6, hW6⟩ : ∃ W6, W6 = w6.setCell ⟨g3, 3, none⟩ v4 := ⟨_, rfl⟩
     rw [← hW6] at hg6 hs6 hr4 hr5 ⊢
     have HG6 := jA hg6
     have HS6 := jA hs6
     have HR4 := jA hr4
     have HR5 := jA hr5
     have hCB := hs6.blk HCL.out (by have h := HN2.out; exact h)
     have HRC := jA (Blk.C hCB (by omega))
     have HRK := jA (linesOf_ok (n := d.objs.length) (F := fill d.subs.length (fun j i => matD d i j)) (fun a b _ _ => fill_u16 (fun j i => matD_u16 d ha i j) a b))
     clear hg6 hs6 hr4 hr5 hv4 hW6 hCB HB6
     go_upto_region 20 with (first | (go_at_call 74; ((with_reducible refine (classes_to (some ⟨gc, 0, none⟩) d.objs.length (linesOf d.objs.length (fill d.subs.length (fun j i => matD d i j))) _ d.objs.length (linesOf_length _ _) HRC.out HRK.out ho).mono ?_)); rintro e w7 ⟨v6, v7, rfl, hr6, hr7, hb⟩; obtain ⟨A6', c6', e6⟩ := Kd.R_slice hr6; obtain ⟨A7', c7', e7⟩ := Kd.R_slice hr7; obtain ⟨n6, hn6⟩ : ∃ n6, n6 = (numsOf (linesOf d.objs.length (fill d.subs.length (fun j i => matD d i j)))).length := ⟨_, rfl⟩; obtain ⟨n7, hn7⟩ : ∃ n7, n7 = (firstsOf (linesOf d.objs.length (fill d.subs.length (fun j i => matD d i j)))).length := ⟨_, rfl⟩; rw [← hn6] at e6; rw [← hn7] at e7; subst e6; subst e7; have hG7 := HG6.out.below hb; have x9 := hG7.cell 4; simp only [gV, Jt, Ju, Jv] at x9; have f9 : w7.frozen? ⟨g3, 4, none⟩ = false := frozen_of_row _ _ _ _ _ hG7; have HG7 := jA hG7; have HR6 := jA hr6; have HR7 := jA hr7; have HB7 := jA hb; have HN7 := jA hn7; clear hr6 hr7 hb hG7 hn6 hn7))
     clear x9 f9
     have hg7 := stays_set HG7.out 4 (.slice A6' n6 c6')
     have hg7 : Stays (w7.setCell ⟨g3, 4, none⟩ (.slice A6' n6 c6')) g3 (gV u0 v1 u2 v4 (.slice A6' n6 c6') (.slice none 0 0)) 142 := hg7
     have hs7 := (HS6.out.move HB7.out).set (a := ⟨g3, 4, none⟩) (.inl rfl) (.slice A6' n6 c6')
     have hr6 := R_set HR6.out HG7.out (by decide) 4 (.slice A6' n6 c6')
     have hr7 := R_set HR7.out HG7.out (by decide) 4 (.slice A6' n6 c6')
     have hr4 := R_set (Kd.R_below HR4.out HB7.out) HG7.out (by decide) 4 (.slice A6' n6 c6')
     have hr5 := R_set (Kd.R_below HR5.out HB7.out) HG7.out (by decide) 4 (.slice A6' n6 c6')
     have hr0 := hs7.toR (offG HU0c.out HG5.out (by decide)) (fun _ h => h)
     have hr1 := hs7.toR (offG HU1c.out HG5.out (by decide)) (fun _ h => h)
     have hr2 := hs7.toR (offG HU2c.out HG5.out (by decide)) (fun _ h => h)
     have hv7 := hs7.stays HV5.out (by have h1 := HG3.out; intro e; have e : gv = g3 := e; omega)
     have hrr := hs7.blk HRW.out (by have h := HN1.out; exact h)
     have hb7 := hs7.below HW5.out (fun k hk => by have h1 := HG3.out; have h2 := HGV.out; have hk : k = g3 := hk; omega)
     obtain ⟨v6, hv6⟩ : ∃ v6, v6 = Value.slice A6' n6 c6' := ⟨_, rfl⟩
     rw [← hv6] at hg7 hr6 hr7 hr4 hr5 hr0 hr1 hr2 hv7 hrr hb7 hs7 ⊢
     obtain ⟨W7, hW7⟩ : ∃ W7, W7 = w7.setCell ⟨g3, 4, none⟩ v6 := ⟨_, rfl⟩
     rw [← hW7] at hg7 hr6 hr7 hr4 hr5 hr0 hr1 hr2 hv7 hrr hb7 hs7 ⊢
     have ZA := hs7.size
     have HR0 := jA (offG hr0 hg7 (by decide))
     have HR1 := jA (Kd.R_lower (offG hr1 hg7 (by decide)) (HW3'.out))
     have HR2 := jA (offG hr2 hg7 (by decide))
     have HR4 := jA (Kd.R_lower (offG hr4 hg7 (by decide)) HW5.out.size)
     have HR5 := jA (Kd.R_lower (offG hr5 hg7 (by decide)) HW5.out.size)
     have HR6 := jA (Kd.R_lower (offG hr6 hg7 (by decide)) (Nat.le_trans HW5.out.size HS6.out.size))
     have HR7 := jA (Kd.R_lower (offG hr7 hg7 (by decide)) (Nat.le_trans HW5.out.size HS6.out.size))
     have HMK := jA (show Mk g3 W7 W7 u0 v1 u2 v4 v6 (.slice none 0 0) [] from ⟨Same.refl _ _, hg7, Kd.R_nil _ _ _ _ _⟩)
     have HV7 := jA hv7
     have HRR := jA hrr
     have HW7 := jA hb7
     clear hg7 hr6 hr7 hr4 hr5 hr0 hr1 hr2 hv7 hrr hb7 hs7 ZA hv6 hW7 HG7 HB7 HS6 HG6 HRC HRK HU0c HU1c HU2c HV5 HG5 HRW HCL HW5
     obtain ⟨WN, hWN⟩ : ∃ WN, WN = firstsN (linesOf d.subs.length (fill d.objs.length (matD d))) := ⟨_, rfl⟩
     obtain ⟨CN, hCN⟩ : ∃ CN, CN = firstsN (linesOf d.objs.length (fill d.subs.length (fun j i => matD d i j))) := ⟨_, rfl⟩
     have hW1 : firstsOf (linesOf d.subs.length (fill d.objs.length (matD d))) = WN.map (fun (n : Nat) => (n : Int)) := by rw [hWN]; rfl
     have hC1 : firstsOf (linesOf d.objs.length (fill d.subs.length (fun j i => matD d i j))) = CN.map (fun (n : Nat) => (n : Int)) := by rw [hCN]; rfl
     have hWlt : ∀ n ∈ WN, n < d.subs.length := fun n hn => by rw [hWN] at hn; have := firstsN_lt hn; rwa [linesOf_length] at this
     have hClt : ∀ n ∈ CN, n < d.objs.length := fun n hn => by rw [hCN] at hn; have := firstsN_lt hn; rwa [linesOf_length] at this
     have hMM : masksM d.subs.length d.objs.length (matD d) = WN.map (fun i => CN.map (fun j => matD d i j)) := by rw [hWN, hCN]; rfl
     have hn5 : n5 = WN.length := by rw [HN5.out, hW1, List.length_map]
     have hn7 : n7 = CN.length := by rw [HN7.out, hC1, List.length_map]
     have Ze : n7 ≤ 64 := by
      have h1 := HN7.out
      rw [firstsOf_length] at h1
      have h2 := uniq_length (linesOf d.objs.length (fill d.subs.length (fun j i => matD d i j)))
      rw [linesOf_length] at h2
      omega
     have ZH : n5 ≤ 64 := by
      have h1 := HN5.out
      rw [firstsOf_length] at h1
      have h2 := uniq_length (linesOf d.subs.length (fill d.objs.length (matD d)))
      rw [linesOf_length] at h2
      omega
     rw [hW1] at HR5
     rw [hC1] at HR7
     have HWLT := jA hWlt
     have HCLT := jA hClt
     have HMM := jA hMM
     have HW5L := jA hn5
     have HC7L := jA hn7
     clear hWN hCN hW1 hC1 hWlt hClt hMM hn5 hn7 HN5 HN7
     go_wp2
     go_loopw [110] (fun Zg wr => ∃ (a : Nat) (vm : Value), a ≤ n5 ∧ Zg = .int .i64 a ∧ Aside0 (Mk g3 W7 wr u0 v1 u2 v4 v6 vm ((masksM d.subs.length d.objs.length (matD d)).take a))) (fun Zg _ => n5 - (intOf Zg).toNat)
     case atStart => exact ⟨0, _, Nat.zero_le _, rfl, HMK⟩
     case round =>
      obtain ⟨a, vm, ha5, rfl, HA⟩ := hrel
      by_cases ZB : a < n5
      ·have hC5 := (Kd.R_reads' (HA.out.same.toR HR5.out (fun _ h => h))).2.2
       have haw : a < WN.length := by rw [← HW5L.out]; exact ZB
       obtain ⟨ad5, e5, hx5⟩ := Kd.at_int hC5 (a : Int) (by omega) (by rw [List.length_map]; omega)
       subst e5
       have hrd : rd (WN.map (fun (n : Nat) => (n : Int))) (a : Int) = ((WN[a] : Nat) : Int) := by simp [rd, haw]
       rw [hrd] at hx5
       simp only [Int.toNat_natCast] at hx5
       have hin := HWLT.out WN[a] (List.getElem_mem haw)
       have htk : (masksM d.subs.length d.objs.length (matD d)).take (a + 1) = (masksM d.subs.length d.objs.length (matD d)).take a ++ [CN.map (fun j => matD d WN[a] j)] := by
        rw [HMM.out]
        have h := List.take_succ_eq_append_getElem (l := WN.map (fun i => CN.map (fun j => matD d i j))) (i := a) (by simpa using haw)
        simpa using h
       have hmlen : ((masksM d.subs.length d.objs.length (matD d)).take a).length = a := by
        have h0 := HW5L.out; rw [List.length_take, HMM.out, List.length_map]; omega
       obtain ⟨i, hii⟩ : ∃ i, i = WN[a] := ⟨_, rfl⟩
       rw [← hii] at hx5 hin htk
       have HTK := jA htk
       have HIN := jA hin
       have HMLIM := jA (show (((masksM d.subs.length d.objs.length (matD d)).take a).length + 1) * 24 ≤ 140737488355328 by omega)
       obtain ⟨ms, hms⟩ : ∃ ms, ms = (masksM d.subs.length d.objs.length (matD d)).take a := ⟨_, rfl⟩
       rw [← hms] at HA HMLIM HTK
       have hmk := make_row n7 Ze
       have c05 : (a : Int) < n5 := by omega
       clear hC5 haw hrd hin htk hmlen hii hms
       go_upto_region 24 with fail
       clear hmk hx5
       have hb8 := below_alloc (Below.refl _ wr) (.cells (madeCells #[.int .u16 0] n7) 175)
       have hr8 := row_none wr n7 Ze
       have hm8 := HA.out.move hb8
       have Zd := Kd.R_below (Kd.R_mono (Kd.R_bound HA.out.ms) (ok' := fun b => b < wr.heap.size) (fun k hk => hk.2.2.1)) hb8
       have Zh : W7.heap.size ≤ wr.heap.size := HA.out.same.size
       obtain ⟨vr, hvr⟩ : ∃ vr, vr = Value.slice (some ⟨wr.heap.size, 0, none⟩) 0 n7 := ⟨_, rfl⟩
       rw [← hvr] at hr8 ⊢
       obtain ⟨W8, hW8⟩ : ∃ W8, W8 = wr.alloc (.cells (madeCells #[.int .u16 0] n7) 175) := ⟨_, rfl⟩
       obtain ⟨B8, hB8⟩ : ∃ B8, B8 = wr.heap.size := ⟨_, rfl⟩
       rw [← hW8] at hr8 hm8 Zd ⊢
       rw [← hB8] at hr8 Zd Zh
       have HR8 := jA hr8
       have HM8 := jA hm8
       have ZC := jA Zd
       have Zr := jA Zh
       have ZD := jA (show B8 ≤ W8.heap.size by rw [hB8, hW8]; exact hb8.size)
       clear hb8 hr8 hm8 Zd Zh hvr hW8 hB8 HA
       go_wp2
       go_loopw [16, 119] (fun u16 Zi wr => ∃ b : Nat, b ≤ n7 ∧ Zi = .int .i64 b ∧ Aside0 (Mk g3 W7 wr u0 v1 u2 v4 v6 vm ms) ∧ Aside0 (Kd.R (Kd.slice 175 (Kd.int .u16)) 174 wr W7.heap.size (fun b => b < B8) vm ms) ∧ Aside0 (Kd.R (Kd.int .u16) 175 wr B8 (fun _ => True) u16 ((CN.map (fun j => matD d i j)).take b)) ∧ Aside0 (B8 ≤ wr.heap.size)) (fun _ Zi _ => n7 - (intOf Zi).toNat)
       case atStart => exact ⟨0, Nat.zero_le _, rfl, HM8, ZC, HR8, ZD⟩
       case round =>
        obtain ⟨b, hb7, rfl, HMb, HMSb, HRb, Zs⟩ := hrel
        by_cases hltb : b < n7
        ·have hC7 := (Kd.R_reads' (HMb.out.same.toR HR7.out (fun _ h => h))).2.2
         have hbw : b < CN.length := by rw [← HC7L.out]; exact hltb
         obtain ⟨ad7, e7, hx7⟩ := Kd.at_int hC7 (b : Int) (by omega) (by rw [List.length_map]; omega)
         subst e7
         have hrd : rd (CN.map (fun (n : Nat) => (n : Int))) (b : Int) = ((CN[b] : Nat) : Int) := by simp [rd, hbw]
         rw [hrd] at hx7
         simp only [Int.toNat_natCast] at hx7
         have hjn := HCLT.out CN[b] (List.getElem_mem hbw)
         have htk : (CN.map (fun j => matD d i j)).take (b + 1) = (CN.map (fun j => matD d i j)).take b ++ [matD d i CN[b]] := by
          have h := List.take_succ_eq_append_getElem (l := CN.map (fun j => matD d i j)) (i := b) (by simpa using hbw)
          simpa using h
         have hrlen : ((CN.map (fun j => matD d i j)).take b).length = b := by have h0 := HC7L.out; rw [List.length_take, List.length_map]; omega
         obtain ⟨j, hjj⟩ : ∃ j, j = CN[b] := ⟨_, rfl⟩
         rw [← hjj] at hx7 hjn htk
         have HTKb := jA htk
         have HRLIM := jA (show (((CN.map (fun j => matD d i j)).take b).length + 1) * 2 ≤ 140737488355328 by omega)
         have hinn := HIN.out
         have n1 : j < 64 := by omega
         have hcell := (HMb.out.same.blk HRR.out (by have h := HN1.out; exact h)).cell (i := i) (j := j) hinn n1
         have hval : fill d.objs.length (matD d) i j = matD d i j := by unfold fill; rw [if_pos hjn]
         rw [hval] at hcell
         obtain ⟨q, hq⟩ : ∃ q, q = matD d i j := ⟨_, rfl⟩
         rw [← hq] at hcell HTKb
         obtain ⟨rl, hrl⟩ : ∃ rl, rl = (CN.map (fun j => matD d i j)).take b := ⟨_, rfl⟩
         rw [← hrl] at HRb HRLIM HTKb
         have c07 : (b : Int) < n7 := by omega
         have c08 : (i : Int) < d.subs.length := by omega
         have c09 : (j : Int) < 64 := by omega
         have hg3b : Stays wr g3 _ 142 := HMb.out.g
         have HNEb := jA (Kd.R_ne HRb.out HMb.out.g (by decide))
         clear hC7 hbw hrd hjn htk hrlen hval hq hrl hjj hg3b
         go_wp2_with (first | ((with_reducible refine gate_builtin (b := .append) (xs := #[.tmp 123, .tmp 130]) rfl ?_); at_builtin; refine Kd.R_append (Kd.int .u16) (w0 := wr) B8 rfl (.tmp 123) (.tmp 130) 174 175 (.int .u16 0) 2 rfl Tryz.underlying174 PG.info175 rfl (by decide) (by decide) u16 rl q [.int .u16 q] (fun _ => True) (fun _ => False) rfl rfl rfl (fun _ hk => hk.elim) (fun _ _ => trivial) HRb.out (Below.refl _ _) (Zs.out) HRLIM.out ?_; intro v9 w9 hR9 hB9 hg9 Zf; have HR9 := jA hR9; have hM9 := HMb.out.row HMSb.out Zr.out (fun k hk => by (obtain ⟨inner, ho⟩ := Kd.R_own HRb.out); exact own_base ho k hk) hg9 HNEb.out; have HM9 := jA hM9.1; have ZE := jA hM9.2; have ZF := jA hg9.size; clear hR9 hB9 hg9 Zf hM9))
         go_roundw
         case rel => exact ⟨b + 1, by omega, by go_num, HM9, ZE, ⟨by rw [HTKb.out]; exact HR9.out⟩, ⟨Nat.le_trans Zs.out ZF.out⟩⟩
         case measure => simp [intOf]; omega
        ·have hbb : b = n7 := by omega
         subst hbb
         have hrow := HRb.out
         rw [List.take_of_length_le (by have h0 := HC7L.out; rw [List.length_map]; omega)] at hrow
         obtain ⟨Ar, cr, er⟩ := Kd.R_slice hrow
         obtain ⟨nr, hnr⟩ : ∃ nr, nr = (CN.map (fun j => matD d i j)).length := ⟨_, rfl⟩
         rw [← hnr] at er
         subst er
         have HROW := jA hrow
         have e5 := HMb.out.g.cell 5
         simp only [gV, Jt, Ju, Jv] at e5
         obtain ⟨rl, hrl⟩ : ∃ rl, rl = CN.map (fun j => matD d i j) := ⟨_, rfl⟩
         rw [← hrl] at HROW HTK
         have HSZ := jA HMb.out.same.size
         have hpm : (Kd.slice 175 (Kd.int .u16)).M wr W7.heap.size (fun k => (Value.slice Ar nr cr).ownBlock = some k) rl [.slice Ar nr cr] := ⟨_, rfl, ⟨fun _ h => h, (Kd.R_lower HROW.out Zr.out).2.imp_ (fun _ _ h => h)⟩⟩
         have hokm : ∀ k, (Value.slice Ar nr cr).ownBlock = some k → True ∧ some k ≠ vm.ownBlock := fun k hk => ⟨trivial, fun e => by
          have h1 := HMSb.out.1 k e.symm
          obtain ⟨inner, ho⟩ := Kd.R_own HROW.out
          have h2 := own_base ho k hk
          omega⟩
         have HPM := jA hpm
         have HOKM := jA hokm
         clear hrow hnr hrl HRb hpm hokm
         go_upto_region 30 with (first | ((with_reducible refine gate_builtin (b := .append) (xs := #[.tmp 134, .tmp 136]) rfl ?_); at_builtin; refine Kd.R_append (Kd.slice 175 (Kd.int .u16)) (w0 := wr) W7.heap.size rfl (.tmp 134) (.tmp 136) 140 174 (.slice none 0 0) 24 rfl Tryz.underlying140 info174 rfl (by decide) (by decide) vm ms rl [.slice Ar nr cr] (fun _ => True) (fun k => (Value.slice Ar nr cr).ownBlock = some k) rfl rfl HPM.out HOKM.out (fun _ _ => trivial) HMb.out.ms (Below.refl _ _) HSZ.out HMLIM.out ?_; intro v11 w11 Zj ZG Zk Zt; have Zu := jA (HMb.out.app Zj Zk); have Zl : Stays w11 g3 (gV u0 v1 u2 v4 v6 vm) 142 := (Zk.block _ (Array.getElem?_eq_some_iff.1 HMb.out.g).1 (Kd.R_ne HMb.out.ms HMb.out.g (by decide))).trans HMb.out.g; have x11 := Zl.cell 5; simp only [gV, Jt, Ju, Jv] at x11; have f11 : w11.frozen? ⟨g3, 5, none⟩ = false := frozen_of_row _ _ _ _ _ Zl; obtain ⟨A11, c11, e11⟩ := Kd.R_slice Zj; obtain ⟨n11, Zv⟩ : ∃ n11, n11 = (ms ++ [rl]).length := ⟨_, rfl⟩; rw [← Zv] at e11; subst e11; clear Zj ZG Zk Zt Zl Zv))
         clear e5 x11 f11
         rw [← HTK.out] at Zu
         go_wp2
         go_roundw
         case rel => exact ⟨a + 1, _, by omega, by go_num, Zu⟩
         case measure => simp [intOf]; omega
      ·have haa : a = n5 := by omega
       subst haa
       have hA := HA.out
       rw [List.take_of_length_le (by have h0 := HW5L.out; rw [HMM.out, List.length_map]; omega)] at hA
       have hVf := hA.same.stays HV7.out (by have h1 := HG3.out; intro e; have e : gv = g3 := e; omega)
       have q0 := hA.same.toR HR0.out (fun _ h => h)
       have q1 := hA.same.toR HR1.out (fun _ h => h)
       have q2 := hA.same.toR HR2.out (fun _ h => h)
       have q3 := hA.same.toR HR4.out (fun _ h => h)
       have q4 := hA.same.toR HR6.out (fun _ h => h)
       have q5 := hA.ms
       obtain ⟨B0', k0, rfl⟩ := Kd.R_slice q0
       obtain ⟨B1', k1, rfl⟩ := Kd.R_slice q1
       obtain ⟨B2', k2, rfl⟩ := Kd.R_slice q2
       obtain ⟨B3', k3, rfl⟩ := Kd.R_slice q3
       obtain ⟨B4', k4, rfl⟩ := Kd.R_slice q4
       obtain ⟨B5', k5, rfl⟩ := Kd.R_slice q5
       obtain ⟨G0, hG0⟩ : ∃ G0 : Array Value, G0 = gV (.slice B0' d.acts.length k0) (.slice B1' (d.subs.map (·.f0)).length k1) (.slice B2' d.objs.length k2) (.slice B3' (numsOf (linesOf d.subs.length (fill d.objs.length (matD d)))).length k3) (.slice B4' (numsOf (linesOf d.objs.length (fill d.subs.length (fun j i => matD d i j)))).length k4) (.slice B5' (masksM d.subs.length d.objs.length (matD d)).length k5) := ⟨_, rfl⟩
       have hsz : G0.size = 6 := by rw [hG0]; rfl
       have h1c : G0.all (·.oneCell') = true := by rw [hG0]; simp [gV, Value.oneCell']
       have hg := hA.g
       rw [← hG0] at hg
       have HVF := jA hVf
       have HGF := jA hg
       have HSZ := jA (show (Tryz.prog.info? 142).map (·.size) = some G0.size by rw [hsz]; exact i26)
       have Zw := jA (show G0.size = (#[.slice none 0 0, .slice none 0 0, .slice none 0 0, .slice none 0 0, .slice none 0 0, .slice none 0 0] : Array Value).size by rw [hsz]; rfl)
       have H1C := jA h1c
       have HG0 := jA hG0
       have HBF := jA (hA.same.below HW7.out (fun k hk => by have h1 := HG3.out; have h2 := HGV.out; have hk : k = g3 := hk; omega))
       have Q0 := jA q0
       have Q1 := jA q1
       have Q2 := jA q2
       have Q3 := jA q3
       have Q4 := jA q4
       have Q5 := jA q5
       clear hA hVf q0 q1 q2 q3 q4 q5 hsz h1c hg hG0 HA
       go_wp2_with (first | ((with_reducible refine gate_dst (N := 140) rfl ?_); refine wpList_load_blk rfl 142 (.tmp 3) rfl g3 ?hx G0 142 HGF.out _ Tryz.underlying142 rfl HSZ.out ?_; (case hx => rfl)) | ((with_reducible refine gate_store (t := 142) (p := 2) (v := .tmp 140) rfl ?_); refine wpList_store_var rfl 142 (.tmp 2) (.tmp 140) rfl gv G0 ?hx ?hy HVF.out Zw.out HSZ.out H1C.out ?_; (case hx => rfl); (case hy => rfl)))
       (try simp only [Exit.inBlock, Exit.then])
       have hres := setCells_var (vs := G0) HVF.out Zw.out
       refine bodyPost_ret (results_single rfl (.cell gv 142 G0 (0, 0) _ rfl hres Tryz.underlying142 rfl HSZ.out .nil)) rfl ?_
       have p0 := Kd.R_reads' (R_setCells Q0.out HVF.out (by decide) G0.toList)
       have p1 := Kd.R_reads' (R_setCells Q1.out HVF.out (by decide) G0.toList)
       have p2 := Kd.R_reads' (R_setCells Q2.out HVF.out (by decide) G0.toList)
       have p3 := Kd.R_reads' (R_setCells Q3.out HVF.out (by decide) G0.toList)
       have p4 := Kd.R_reads' (R_setCells Q4.out HVF.out (by decide) G0.toList)
       have p5 := Kd.R_reads' (R_setCells Q5.out HVF.out types_ms G0.toList)
       refine ⟨⟨B0', k0, d.acts, B1', k1, d.subs.map (·.f0), B2', k2, d.objs, B3', k3, numsOf (linesOf d.subs.length (fill d.objs.length (matD d))), B4', k4, numsOf (linesOf d.objs.length (fill d.subs.length (fun j i => matD d i j))), B5', k5, masksM d.subs.length d.objs.length (matD d)⟩, ?_, ⟨p0.2.2, p1.2.2, p2.2.2, p3.2.2, p4.2.2, p5.2.2, p0.2.1, p1.2.1, p2.2.1, p3.2.1, p4.2.1, p5.2.1, ?_⟩, rfl, rfl, rfl, rfl, rfl, rfl, setCells_below HBF.out (Nat.le_of_lt HGV.out) _⟩
       ·rw [HG0.out]; rfl
       ·intro row hr x hx
        have hr : row ∈ masksM d.subs.length d.objs.length (matD d) := hr
        unfold masksM at hr
        obtain ⟨i, _, rfl⟩ := List.mem_map.1 hr
        obtain ⟨j, _, rfl⟩ := List.mem_map.1 hx
        exact matD_u16 d ha i j
end Go.Proofs.YtdgkppldopiaoaaGreat.CCompile
/- A compiled graph decides as the policy allows. -/
namespace Go.Proofs.YtdgkppldopiaoaaGreat.CSays
open Go.RowKit YtdgkppldopiaoaaGreatW.PrintWords YtdgkppldopiaoaaGreatW.PrintLast YtdgkppldopiaoaaGreatW.PrintMore CPure CSame CCompile GValid MPol
open PG
theorem rd_get {l : List Int} {i : Nat} {x : Int} (h : l[i]? = some x) : rd l (i : Int) = x := by simp [rd, h]
structure Comp (d : PolD) (g : G) : Prop where
 la : g.la = d.acts
 ls : g.ls = d.subs.map (·.f0)
 lo : g.lo = d.objs
 of : g.of = ofM d.subs.length d.objs.length (matD d)
 on : g.on = ofM d.objs.length d.subs.length (fun j i => matD d i j)
 ms : g.ms = masksM d.subs.length d.objs.length (matD d)
theorem compile_comp (p : Pol) (w : World) (hp : p.In w) (hd : p.d.Ok) (hs : p.d.subs.length ≤ 64) (ho : p.d.objs.length ≤ 64) (ha : p.d.acts.length ≤ 16) :
  Calls Tryz.prog 49 #[.agg p.cells] w fun e w' => ∃ g : G, e = .returned g.val ∧ g.In w' ∧ Comp p.d g ∧ Below w.heap.size w w' :=
 (compile_calls p w hp hd hs ho ha).mono fun _ _ ⟨g, h1, h2, h3, h4, h5, h6, h7, h8, h9⟩ => ⟨g, h1, h2, ⟨h3, h4, h5, h6, h7, h8⟩, h9⟩
end Go.Proofs.YtdgkppldopiaoaaGreat.CSays
/- one("ann") (gatehouselaw23), walked; what it compiles to. -/
namespace Go.Proofs.YtdgkppldopiaoaaGreat.ROne
open Go.RowKit YtdgkppldopiaoaaGreatW.PrintWords YtdgkppldopiaoaaGreatW.PrintLast YtdgkppldopiaoaaGreatW.PrintMore BMap BRow CPure CSame CCompile CSays GValid MLines MSide MPol Go.Maps
open PG
abbrev bOpen : ByteArray := ⟨#[111, 112, 101, 110]⟩
abbrev bAnn : ByteArray := ⟨#[97, 110, 110]⟩
abbrev bBob : ByteArray := ⟨#[98, 111, 98]⟩
abbrev bDoor : ByteArray := ⟨#[100, 111, 111, 114]⟩
def rule1 : S148 := ⟨false, bAnn, bDoor, [], 0, 0⟩
def d1 : PolD := ⟨[bOpen], [⟨bAnn, 4607182418800017408⟩, ⟨bBob, 4607182418800017408⟩], [], [bDoor], [], [], [], [], [], [rule1], []⟩
theorem reach_nil {x s : ByteArray} (h : MClose.Reach ([] ++ []) x s) : s = x := by
 rcases MClose.reach_in h with h | h
 ·exact h
 ·simp at h
theorem trust_in (d : PolD) (s : ByteArray) : (d.trust s).isSome = true ↔ s ∈ d.subs.map (·.f0) := by
 rw [List.mem_map]
 constructor
 ·intro h
  unfold PolD.trust at h
  cases hf : d.subs.find? (fun x => decide (x.f0 = s)) with
  | none => rw [hf] at h; simp at h
  | some y => exact ⟨y, List.mem_of_find?_eq_some hf, by have := List.find?_some hf; simpa using this⟩
 ·rintro ⟨y, hy, he⟩
  obtain ⟨tr, h⟩ := trust_some (d := d) (s := s) ⟨y, hy, he⟩
  rw [h]; rfl
open Classical in
theorem allow1 (t : S89) : d1.allowB t = true ↔ t = ⟨bAnn, bDoor, bOpen⟩ := by
 constructor
 ·intro h
  unfold PolD.allowB at h
  simp only [Bool.and_eq_true, decide_eq_true_eq] at h
  have h4 := (allowsF_iff _ _ _).1 h.2.2.2
  obtain ⟨⟨⟨r, hr, hn⟩, _⟩, _⟩ := h4
  unfold PolD.speak at hr
  obtain ⟨hr1, hr2⟩ := List.mem_filter.1 hr
  have hr1 : r = rule1 := by simpa [d1] using hr1
  subst hr1
  unfold speaksB at hr2
  simp only [Bool.and_eq_true, decide_eq_true_eq] at hr2
  have e0 := reach_nil hr2.1
  have e1 := reach_nil hr2.2.1
  have e2 : t.f2 = bOpen := by
   have : t.f2 ∈ d1.acts := h.2.2.1
   simpa [d1] using this
  obtain ⟨a, b, c⟩ := t
  simp only [rule1] at e0 e1 e2
  rw [← e0, ← e1, e2]
 ·rintro rfl
  unfold PolD.allowB
  simp only [Bool.and_eq_true, decide_eq_true_eq]
  refine ⟨(trust_in _ _).2 (by simp [d1]), by simp [d1], by simp [d1], ?_⟩
  rw [allowsF_iff]
  have hsp : rule1 ∈ d1.speak bAnn bDoor ((d1.trust bAnn).getD 0) := by
   unfold PolD.speak
   refine List.mem_filter.2 ⟨by simp [d1], ?_⟩
   unfold speaksB
   simp only [Bool.and_eq_true, decide_eq_true_eq]
   exact ⟨MClose.Reach.here, MClose.Reach.here, by simp [passB, rule1]⟩
  refine ⟨⟨⟨rule1, hsp, .inl (by simp [rule1])⟩, ?_⟩, by simp [d1]⟩
  intro r hr _
  unfold PolD.speak at hr
  have hr1 : r = rule1 := by simpa [d1] using (List.mem_filter.1 hr).1
  subst hr1
  rfl
theorem allow1_no (t : S89) (h : t ≠ ⟨bAnn, bDoor, bOpen⟩) : d1.allowB t = false := by
 cases hq : d1.allowB t with
 | false => rfl
 | true => exact absurd ((allow1 t).1 hq) h
def m1 (i _j : Nat) : Int := if i = 0 then 1 else 0
theorem mask1 (s o : ByteArray) : maskD d1 s o = if s = bAnn ∧ o = bDoor then 1 else 0 := by
 refine Nat.eq_of_testBit_eq fun k => ?_
 unfold maskD
 rw [maskN_bit]
 have hl : d1.acts.length = 1 := rfl
 by_cases hk : k < 1
 ·obtain rfl : k = 0 := by omega
  have e : d1.acts[0]? = some bOpen := rfl
  simp only [e, hl]
  by_cases h : s = bAnn ∧ o = bDoor
  ·obtain ⟨rfl, rfl⟩ := h
   rw [if_pos ⟨rfl, rfl⟩, (allow1 _).2 rfl]; rfl
  ·rw [if_neg h, allow1_no _ (by intro e; injection e with e0 e1 _; exact h ⟨e0, e1⟩)]; rfl
 ·have : decide (k < d1.acts.length) = false := by rw [hl]; simpa using hk
  rw [this, Bool.false_and]
  have hk2 : 1 < 2 ^ k := Nat.lt_of_lt_of_le (by decide : 1 < 2 ^ 1) (Nat.pow_le_pow_right (by omega) (by omega))
  split
  ·exact (Nat.testBit_lt_two_pow hk2).symm
  ·simp
theorem mat1 (i j : Nat) (hi : i < 2) (hj : j < 1) : matD d1 i j = m1 i j := by
 unfold matD
 rw [mask1]
 obtain rfl : j = 0 := by omega
 rcases (by omega : i = 0 ∨ i = 1) with rfl | rfl
 ·rw [if_pos (by decide)]; rfl
 ·rw [if_neg (by decide)]; rfl
theorem lines_congr {n m : Nat} {M N : Nat → Nat → Int} (h : ∀ i j, i < n → j < m → M i j = N i j) : lines n m M = lines n m N := by
 unfold lines
 refine List.map_congr_left fun a ha => List.map_congr_left fun b _ => ?_
 unfold fill
 split
 ·rename_i hb; exact h a b (by simpa using ha) hb
 ·rfl
theorem e1 : lines 2 1 (matD d1) = lines 2 1 m1 := lines_congr fun i j hi hj => mat1 i j hi hj
theorem e2 : lines 1 2 (fun j i => matD d1 i j) = lines 1 2 (fun j i => m1 i j) := lines_congr fun j i hj hi => mat1 i j hi hj
theorem masks1 : masksM d1.subs.length d1.objs.length (matD d1) = [[1], [0]] := by
 show masksM 2 1 (matD d1) = _
 unfold masksM
 rw [e1, e2]
 have f1 : firstsN (lines 2 1 m1) = [0, 1] := by decide +kernel
 have f2 : firstsN (lines 1 2 (fun j i => m1 i j)) = [0] := by decide +kernel
 rw [f1, f2]
 simp only [List.map_cons, List.map_nil]
 rw [mat1 0 0 (by omega) (by omega), mat1 1 0 (by omega) (by omega)]
 rfl
theorem of1 : ofM d1.subs.length d1.objs.length (matD d1) = [1, 2] := by
 show numsOf (lines 2 1 (matD d1)) = _
 rw [e1]
 decide +kernel
theorem on1 : ofM d1.objs.length d1.subs.length (fun j i => matD d1 i j) = [1] := by
 show numsOf (lines 1 2 (fun j i => matD d1 i j)) = _
 rw [e2]
 decide +kernel
theorem C_one {α : Type} {dk : Kd α} {w : World} {b t : Nat} {x : α} {cs : Array Value} {cx : List Value} (hS : Stays w b cs t) (hcs : cs.toList = cx) (hx : dk.K w x cx) : Kd.C dk w (some ⟨b, 0, none⟩) 1 [x] := by
 refine ⟨rfl, by decide, fun _ => ⟨_, rfl, fun j p hp => ?_⟩⟩
 have hj : j = 0 := by have := (List.getElem?_eq_some_iff.1 hp).1; simpa using this
 subst hj
 have hp : x = p := by simpa using hp
 subst hp
 refine ⟨cx, dk.K_len hx, hx, fun i u hu => ?_⟩
 have e : ((⟨b, 0, none⟩ : Addr).add (0 * dk.sz + i)) = ⟨b, i, none⟩ := by rw [Addr.add_mid, Nat.zero_mul, Nat.zero_add, Nat.zero_add]
 rw [e, hS.cell, ← Array.getElem?_toList, hcs]
 exact hu
theorem C_two {α : Type} {dk : Kd α} {w : World} {b t : Nat} {x y : α} {cs : Array Value} {cx cy : List Value} (hS : Stays w b cs t) (hcs : cs.toList = cx ++ cy) (hx : dk.K w x cx) (hy : dk.K w y cy) : Kd.C dk w (some ⟨b, 0, none⟩) 2 [x, y] := by
 refine ⟨rfl, by decide, fun _ => ⟨_, rfl, fun j p hp => ?_⟩⟩
 have hj : j < 2 := by have := (List.getElem?_eq_some_iff.1 hp).1; simpa using this
 have hj : j = 0 ∨ j = 1 := by omega
 rcases hj with rfl | rfl
 ·have hp : x = p := by simpa using hp
  subst hp
  refine ⟨cx, dk.K_len hx, hx, fun i u hu => ?_⟩
  have e : ((⟨b, 0, none⟩ : Addr).add (0 * dk.sz + i)) = ⟨b, i, none⟩ := by rw [Addr.add_mid, Nat.zero_mul, Nat.zero_add, Nat.zero_add]
  have hi := (List.getElem?_eq_some_iff.1 hu).1
  rw [e, hS.cell, ← Array.getElem?_toList, hcs, List.getElem?_append_left hi]
  exact hu
 ·have hp : y = p := by simpa using hp
  subst hp
  refine ⟨cy, dk.K_len hy, hy, fun i u hu => ?_⟩
  have e : ((⟨b, 0, none⟩ : Addr).add (1 * dk.sz + i)) = ⟨b, dk.sz + i, none⟩ := by rw [Addr.add_mid, Nat.one_mul, Nat.zero_add]
  have hl := dk.K_len hx
  rw [e, hS.cell, ← Array.getElem?_toList, hcs, List.getElem?_append_right (by omega), hl, Nat.add_sub_cancel_left]
  exact hu
theorem C_nil {α : Type} (dk : Kd α) (w : World) : Kd.C dk w none 0 [] := ⟨rfl, by decide, fun h => absurd h (by decide)⟩
def p1 (b : Nat) : Pol := ⟨d1, some ⟨b, 0, none⟩, 1, some ⟨b + 1, 0, none⟩, 2, none, 0, some ⟨b + 1 + 1, 0, none⟩, 1, none, 0, none, 0, none, 0, none, 0, none, 0, some ⟨b + 1 + 1 + 1, 0, none⟩, 1, none, 0⟩
theorem p1_in {W : World} {b : Nat} (h0 : Stays W b #[.string bOpen] 9) (h1 : Stays W (b + 1) #[.string bAnn, .float .f64 4607182418800017408, .string bBob, .float .f64 4607182418800017408] 146) (h2 : Stays W (b + 1 + 1) #[.string bDoor] 9)
  (h4 : Stays W (b + 1 + 1 + 1) #[.bool false, .string bAnn, .string bDoor, .slice none 0 0, .int .i8 0, .float .f64 0] 148) : (p1 b).In W where
 h0 := C_one h0 rfl rfl
 h1 := C_two h1 rfl (k146_mk W ⟨bAnn, 4607182418800017408⟩) (k146_mk W ⟨bBob, 4607182418800017408⟩)
 h2 := C_nil _ _
 h3 := C_one h2 rfl rfl
 h4 := C_nil _ _
 h5 := C_nil _ _
 h6 := C_nil _ _
 h7 := C_nil _ _
 h8 := C_nil _ _
 h9 := C_one h4 rfl (k148_mk W rule1 (A3 := none) (c3 := 0) (Nat.le_refl 0) (C_nil _ _))
 h10 := C_nil _ _
 l0 := Nat.le_refl 1
 l1 := Nat.le_refl 2
 l2 := Nat.le_refl 0
 l3 := Nat.le_refl 1
 l4 := Nat.le_refl 0
 l5 := Nat.le_refl 0
 l6 := Nat.le_refl 0
 l7 := Nat.le_refl 0
 l8 := Nat.le_refl 0
 l9 := Nat.le_refl 1
 l10 := Nat.le_refl 0
theorem d1_ok : d1.Ok where
 subs := by intro s hs; simp [d1] at hs; rcases hs with rfl | rfl <;> decide
 objs := by intro s hs; simp [d1] at hs; rcases hs with rfl | rfl <;> decide
 acts := by intro s hs; simp [d1] at hs; rcases hs with rfl | rfl <;> decide
 mem := by simp [d1]
 inh := by simp [d1]
 par := by simp [d1]
 wit := by simp [d1]
 rules := by intro r hr; simp [d1] at hr; subst hr; exact ⟨by decide, by decide⟩
 lmem := by decide
 linh := by decide
 lpar := by decide
 lwit := by decide
 lrules := by decide
def pV (b : Nat) : Array Value := #[.slice (some ⟨b, 0, none⟩) 1 1, .slice (some ⟨b + 1, 0, none⟩) 2 2, .slice none 0 0, .slice (some ⟨b + 1 + 1, 0, none⟩) 1 1, .slice none 0 0, .slice none 0 0, .slice none 0 0, .slice none 0 0, .slice none 0 0, .slice (some ⟨b + 1 + 1 + 1, 0, none⟩) 1 1, .slice none 0 0]
structure G1 (g : G) : Prop where
 la : g.la = [bOpen]
 ls : g.ls = [bAnn, bBob]
 lo : g.lo = [bDoor]
 of : g.of = [1, 2]
 on : g.on = [1]
 ms : g.ms = [[1], [0]]
theorem compile1 (b : Nat) (w : World) (h : (p1 b).In w) :
  Calls Tryz.prog 49 #[.agg (pV b)] w fun e w' => ∃ g : G, e = .returned g.val ∧ g.In w' ∧ G1 g ∧ Below w.heap.size w w' :=
 (compile_comp (p1 b) w h d1_ok (by show 2 ≤ 64; decide) (by show 1 ≤ 64; decide) (by show 1 ≤ 16; decide)).mono fun e w' ⟨g, h1, h2, h3, h4⟩ => ⟨g, h1, h2, ⟨h3.la, h3.ls, h3.lo, h3.of.trans of1, h3.on.trans on1, h3.ms.trans masks1⟩, h4⟩
theorem i31 : (Tryz.prog.info? 82).map (·.size) = some 11 := by kernel_rfl
theorem Pol.In.below {p : Pol} {w w1 : World} (h : p.In w) (hb : Below w.heap.size w w1) : p.In w1 :=
 { h with h0 := Kd.C_below h.h0 hb, h1 := Kd.C_below h.h1 hb, h2 := Kd.C_below h.h2 hb, h3 := Kd.C_below h.h3 hb, h4 := Kd.C_below h.h4 hb, h5 := Kd.C_below h.h5 hb, h6 := Kd.C_below h.h6 hb, h7 := Kd.C_below h.h7 hb, h8 := Kd.C_below h.h8 hb, h9 := Kd.C_below h.h9 hb, h10 := Kd.C_below h.h10 hb }
theorem up {w : World} {o x : Obj} {b : Nat} (h : w.heap[b]? = some x) : (w.alloc o).heap[b]? = some x := (Below.heap_alloc w o b (Array.getElem?_eq_some_iff.1 h).1).trans h
theorem one_calls (w : World) : Calls Tryz.prog 23 #[.string bAnn] w fun e w' => ∃ b, e = .returned (.agg (pV b)) ∧ (p1 b).In w' ∧ Below w.heap.size w w' := by
 go_enter Tryz.func23, Tryz.ntmps23
 go_wp2
 obtain ⟨b, hb⟩ : ∃ b, b = w.heap.size := ⟨_, rfl⟩
 have n1 : (w.alloc (.cells (pV (b + 1)) 82)).heap.size = b + 1 := by rw [World.size_alloc, hb]
 have n2 : ((w.alloc (.cells (pV (b + 1)) 82)).alloc (.cells #[.string bOpen] 9)).heap.size = b + 1 + 1 := by rw [World.size_alloc, n1]
 have n3 : (((w.alloc (.cells (pV (b + 1)) 82)).alloc (.cells #[.string bOpen] 9)).alloc (.cells #[.string bAnn, .float .f64 4607182418800017408, .string bBob, .float .f64 4607182418800017408] 146)).heap.size = b + 1 + 1 + 1 := by rw [World.size_alloc, n2]
 have n4 : ((((w.alloc (.cells (pV (b + 1)) 82)).alloc (.cells #[.string bOpen] 9)).alloc (.cells #[.string bAnn, .float .f64 4607182418800017408, .string bBob, .float .f64 4607182418800017408] 146)).alloc (.cells #[.string bDoor] 9)).heap.size = b + 1 + 1 + 1 + 1 := by rw [World.size_alloc, n3]
 have h0 := heap_alloc_new w (.cells (pV (b + 1)) 82)
 have h1 := heap_alloc_new (w.alloc (.cells (pV (b + 1)) 82)) (.cells #[.string bOpen] 9)
 have h2 := heap_alloc_new ((w.alloc (.cells (pV (b + 1)) 82)).alloc (.cells #[.string bOpen] 9)) (.cells #[.string bAnn, .float .f64 4607182418800017408, .string bBob, .float .f64 4607182418800017408] 146)
 have h3 := heap_alloc_new (((w.alloc (.cells (pV (b + 1)) 82)).alloc (.cells #[.string bOpen] 9)).alloc (.cells #[.string bAnn, .float .f64 4607182418800017408, .string bBob, .float .f64 4607182418800017408] 146)) (.cells #[.string bDoor] 9)
 have h4 := heap_alloc_new ((((w.alloc (.cells (pV (b + 1)) 82)).alloc (.cells #[.string bOpen] 9)).alloc (.cells #[.string bAnn, .float .f64 4607182418800017408, .string bBob, .float .f64 4607182418800017408] 146)).alloc (.cells #[.string bDoor] 9)) (.cells #[.bool false, .string bAnn, .string bDoor, .slice none 0 0, .int .i8 0, .float .f64 0] 148)
 rw [n1] at h1
 rw [n2] at h2
 rw [n3] at h3
 rw [n4] at h4
 have hbel : Below w.heap.size w (((((w.alloc (.cells (pV (b + 1)) 82)).alloc (.cells #[.string bOpen] 9)).alloc (.cells #[.string bAnn, .float .f64 4607182418800017408, .string bBob, .float .f64 4607182418800017408] 146)).alloc (.cells #[.string bDoor] 9)).alloc (.cells #[.bool false, .string bAnn, .string bDoor, .slice none 0 0, .int .i8 0, .float .f64 0] 148)) := by repeat (first | exact Below.refl _ _ | refine below_alloc ?_ _)
 have hv := up (o := .cells #[.bool false, .string bAnn, .string bDoor, .slice none 0 0, .int .i8 0, .float .f64 0] 148) (up (o := .cells #[.string bDoor] 9) (up (o := .cells #[.string bAnn, .float .f64 4607182418800017408, .string bBob, .float .f64 4607182418800017408] 146) (up (o := .cells #[.string bOpen] 9) h0)))
 have hp := p1_in (b := b + 1) (up (o := .cells #[.bool false, .string bAnn, .string bDoor, .slice none 0 0, .int .i8 0, .float .f64 0] 148) (up (o := .cells #[.string bDoor] 9) (up (o := .cells #[.string bAnn, .float .f64 4607182418800017408, .string bBob, .float .f64 4607182418800017408] 146) h1))) (up (o := .cells #[.bool false, .string bAnn, .string bDoor, .slice none 0 0, .int .i8 0, .float .f64 0] 148) (up (o := .cells #[.string bDoor] 9) h2)) (up (o := .cells #[.bool false, .string bAnn, .string bDoor, .slice none 0 0, .int .i8 0, .float .f64 0] 148) h3) h4
 have HP := jA hp
 have HB := jA hbel
 rw [← hb] at hv ⊢
 rw [← hb] at HB
 refine bodyPost_ret (results_single rfl (.cell b 82 (pV (b + 1)) (0, 0) _ rfl hv Tryz.underlying82 rfl i31 .nil)) rfl ?_
 exact ⟨b + 1, rfl, HP.out, HB.out⟩
end Go.Proofs.YtdgkppldopiaoaaGreat.ROne
namespace Go.Proofs.YtdgkppldopiaoaaGreat.PH
open YtdgkppldopiaoaaGreatF
attribute [local go_sem high] run_feq run_fne run_flt_lt run_flt_le run_flt_gt run_flt_ge
open Go.RowKit YtdgkppldopiaoaaGreatW.PrintWords YtdgkppldopiaoaaGreatW.PrintLast YtdgkppldopiaoaaGreatW.PrintMore
attribute [local go_sem] max2_int min2_int max_two min_two max_three min_three max_four min_four
def errW : Option Int → Value
 | none => .nilIface
 | some c => .iface 0 (.int .i64 c)
theorem errW_none : errW none = .nilIface := rfl
theorem errW_some (c : Int) : errW (some c) = .iface 0 (.int .i64 c) := rfl
-- the values' own types
end Go.Proofs.YtdgkppldopiaoaaGreat.PH
