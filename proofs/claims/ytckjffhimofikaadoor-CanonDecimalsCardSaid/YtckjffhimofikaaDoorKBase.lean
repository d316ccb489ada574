/- General lemmas (variables in memory, worlds that differ in known blocks), a policy's lists. -/
import Derived.Test.YtckjffhimofikaaDoorB
import Derived.Test.YtckjffhimofikaaDoorWMore
import Derived.Test.YtckjffhimofikaaDoorWLast
import Derived.Maps.Keyed
import Derived.Maps.Own
import Derived.OwnWalk
import Derived.Below
import Derived.Deep.Draws
import Derived.WalkKit
import Derived.Laws.Rows
import Derived.Laws.CopyRow
import Derived.Deep.LoopGhost
import Derived.RegionTactic
import Derived.BigRegion
import Derived.Deep.RegionWith
import Derived.DeepKeys5
import Derived.ChangeSlices
import Derived.Carry
import Derived.Outline
import Derived.Deep.DeepMust
import Derived.Deep.DeepCutAuto
import Derived.Maps.AppendAt
namespace Go.Proofs.YtckjffhimofikaaDoor.KBase
open Go.RowKit Go.Proofs.YtckjffhimofikaaDoorW.PrintWords Go.Proofs.YtckjffhimofikaaDoorW.PrintLast Go.Proofs.YtckjffhimofikaaDoorW.PrintMore Go.Maps
open Go.Proofs.YtckjffhimofikaaDoor
set_option linter.unusedSimpArgs false

section
variable {P : Program} {ops : Array Oper} {rest : List Oper} {o o1 o2 : Oper} {a : Act} {w : World} {Q : Exit → Act → World → Prop}
def aggDesc : TypeDesc → Bool
  | .struct _ | .array _ _ => true
  | _ => false
theorem run_loadVar_at (ty : TypeId) (a0 : Addr) (cs : List Value) (hc : ∀ j v, cs[j]? = some v → w.cell? (a0.add j) = some v) (d : TypeDesc) (hu : P.underlying ty = some d) (hd : aggDesc d = true)
    (hi : (P.info? ty).map (·.size) = some cs.length) : (loadVar ty a0).run P w = .ok (.agg cs.toArray) w := by
  have hl : (loadCells a0 cs.length).run P w = .ok cs.toArray w := run_loadCells_list (P := P) w a0 cs hc
  cases hq : P.info? ty with
  | none => simp [hq] at hi
  | some i =>
    have hs : i.size = cs.length := by simpa [hq] using hi
    have hagg : (isAgg ty).run P w = .ok true w := by
      unfold isAgg
      rw [Sem.run_bind, run_underlying hu w]
      cases d <;> simp_all [aggDesc]
    simp [loadVar, Sem.run_bind, hagg, sizeOf, typeInfo, hq, hs, hl]
theorem wp_load_at (ty : TypeId) (x : Operand) (ho : o.op = .load ty x) (a0 : Addr) (hx : a.eval x = .pointer (some a0)) (cs : List Value) (hc : ∀ j v, cs[j]? = some v → w.cell? (a0.add j) = some v)
    (d : TypeDesc) (hu : P.underlying ty = some d) (hd : aggDesc d = true) (hi : (P.info? ty).map (·.size) = some cs.length) {K : Act → World → Prop} (h : K (a.put o.dst (.agg cs.toArray)) w) : o.wp P a w K Q := by
  unfold Oper.wp execOp
  simp only [ho, hx, Instr.loadAt, Instr.sureAddr, Sem.run_bind, Sem.run_pure, Result.andThen_ok, run_loadVar_at ty a0 cs hc d hu hd hi]
  exact h
theorem wpList_load_at (hgd : o.guard = none) (ty : TypeId) (x : Operand) (ho : o.op = .load ty x) (a0 : Addr) (hx : a.eval x = .pointer (some a0)) (cs : List Value) (hc : ∀ j v, cs[j]? = some v → w.cell? (a0.add j) = some v)
    (d : TypeDesc) (hu : P.underlying ty = some d) (hd : aggDesc d = true) (hi : (P.info? ty).map (·.size) = some cs.length) (h : wpList P ops Q rest (a.put o.dst (.agg cs.toArray)) w) : wpList P ops Q (o :: rest) a w :=
  wpList_plain hgd fun _ hK => wp_load_at ty x ho a0 hx cs hc d hu hd hi (hK _ _ h)

theorem setRow_alloc (w : World) (cur L : Array Value) (t : TypeId) : (w.alloc (.cells cur t)).setRow w.heap.size L = w.alloc (.cells L t) := by
  have : ((w.heap.push (.cells cur t)).modify w.heap.size fun | .cells _ elem frozen => .cells L elem frozen | o => o) = w.heap.push (.cells L t) := by
    apply Array.ext
    · simp
    · intro i h1 h2
      rw [Array.getElem_modify]
      by_cases h : w.heap.size = i
      · subst h; simp
      · rw [if_neg h, Array.getElem_push, Array.getElem_push]
        split
        · rfl
        · rename_i h3; simp at h1; omega
  exact congrArg (fun h => ({ w with heap := h } : World)) this
theorem run_storeVar_new (ty : TypeId) (cur L : Array Value) (hi : (P.info? ty).map (·.size) = some L.size) (hs : cur.size = L.size) (h1 : ∀ v ∈ L.toList, v.oneCell' = true) :
    (storeVar ty ⟨w.heap.size, 0, none⟩ (.agg L)).run P (w.alloc (.cells cur ty)) = .ok () (w.alloc (.cells L ty)) := by
  cases hq : P.info? ty with
  | none => simp [hq] at hi
  | some i =>
    have hsz : i.size = L.size := by simpa [hq] using hi
    have hg : (w.alloc (.cells cur ty)).heap[w.heap.size]? = some (.cells cur ty (0, 0)) := heap_alloc_new w _
    have hst := run_storeCells_at P w.heap.size 0 ty L.toList 0 cur (w.alloc (.cells cur ty)) hg (by simp; omega) h1
    have e : cur.toList.take (0 + 0) ++ L.toList ++ cur.toList.drop (0 + 0 + L.toList.length) = L.toList := by
      simp; omega
    rw [e, Array.toArray_toList, setRow_alloc] at hst
    simp [storeVar, sizeOf, typeInfo, hq, Value.cells, hsz, hst]
theorem wpList_store_new (hg2 : o2.guard = none) (ty : TypeId) (p : Operand) (x : Operand) (ho2 : o2.op = .store ty p x) (cur L : Array Value) (hi : (P.info? ty).map (·.size) = some L.size) (hs : cur.size = L.size) (h1 : ∀ v ∈ L.toList, v.oneCell' = true)
    (hx : a.eval x = .agg L) (hp : a.eval p = .pointer (some ⟨w.heap.size, 0, none⟩))
    (h : wpList P ops Q rest (a.put o2.dst undef) (w.alloc (.cells L ty))) : wpList P ops Q (o2 :: rest) a (w.alloc (.cells cur ty)) := by
  refine wpList_plain hg2 fun K' hK' => ?_
  unfold Oper.wp execOp
  have hst := run_storeVar_new (P := P) (w := w) ty cur L hi hs h1
  simp only [ho2, hx, hp, Instr.storeAt, Instr.sureAddr, Sem.run_bind, Sem.run_pure, Result.andThen_ok, hst]
  exact hK' _ _ h
theorem wpList_alloc_store (hg1 : o1.guard = none) (hg2 : o2.guard = none) (ty : TypeId) (d : Tmp) (x : Operand) (ho1 : o1.op = .alloc ty) (hd1 : o1.dst = some d) (ho2 : o2.op = .store ty (.tmp d) x) (cur L : Array Value) (z : Value)
    (hz : (zeroValue ty).run P w = .ok z w) (hzc : z.cells = cur) (hi : (P.info? ty).map (·.size) = some L.size) (hs : cur.size = L.size) (h1 : ∀ v ∈ L.toList, v.oneCell' = true)
    (hx : (a.put (some d) (.pointer (some ⟨w.heap.size, 0, none⟩))).eval x = .agg L) (hp : (a.put (some d) (.pointer (some ⟨w.heap.size, 0, none⟩))).eval (.tmp d) = .pointer (some ⟨w.heap.size, 0, none⟩))
    (h : wpList P ops Q rest ((a.put (some d) (.pointer (some ⟨w.heap.size, 0, none⟩))).put o2.dst undef) (w.alloc (.cells L ty))) : wpList P ops Q (o1 :: o2 :: rest) a w := by
  rw [← hd1] at hx hp h
  refine wpList_plain hg1 fun K hK => ?_
  have hv : (newVar ty z).run P w = .ok ⟨w.heap.size, 0, none⟩ (w.alloc (.cells cur ty)) := by
    rw [← hzc]; rfl
  unfold Oper.wp execOp
  simp only [ho1, Instr.alloc, Sem.run_bind, hz, Result.andThen_ok, hv, Sem.run_pure]
  refine hK _ _ (wpList_plain hg2 fun K' hK' => ?_)
  unfold Oper.wp execOp
  have hst := run_storeVar_new (P := P) (w := w) ty cur L hi hs h1
  simp only [ho2, hx, hp, Instr.storeAt, Instr.sureAddr, Sem.run_bind, Sem.run_pure, Result.andThen_ok, hst]
  exact hK' _ _ h
end

theorem frozen_of_row {w : World} {g : Nat} {cs : Array Value} {t : TypeId} (h : w.heap[g]? = some (.cells cs t (0, 0))) (i : Nat) : w.frozen? ⟨g, i, none⟩ = false := by simp [World.frozen?, h]

/-- A variable that fills its block, loaded whole. -/
theorem wpList_load_blk {P : Program} {w : World} {ops : Array Oper} {rest : List Oper} {op : Oper} {a : Act} {Q : Exit → Act → World → Prop} (hgd : op.guard = none) (ty : TypeId) (x : Operand) (ho : op.op = .load ty x) (g : Nat) (hx : a.eval x = .pointer (some ⟨g, 0, none⟩))
    (cs : Array Value) (t : TypeId) (hg : w.heap[g]? = some (.cells cs t (0, 0))) (d : TypeDesc) (hu : P.underlying ty = some d) (hd : d.isRow = true) (hi : (P.info? ty).map (·.size) = some cs.size) (h : wpList P ops Q rest (a.put op.dst (.agg cs)) w) : wpList P ops Q (op :: rest) a w := by
  refine wpList_load_mid hgd ty x ho g 0 hx cs.toList d (fun j v hv => ?_) hu hd (by simpa using hi) (by simpa using h)
  rw [cell_of_row _ _ _ _ _ _ hg, Nat.zero_add, ← hv]; simp

/-- A block that stays. -/
def Stays (w : World) (g : Nat) (cs : Array Value) (t : TypeId) : Prop := w.heap[g]? = some (.cells cs t (0, 0))
theorem Stays.below {w w1 : World} {g : Nat} {cs : Array Value} {t : TypeId} (h : Stays w g cs t) (hb : Below w.heap.size w w1) : Stays w1 g cs t := (hb.block _ (Array.getElem?_eq_some_iff.1 h).1).trans h
theorem Stays.cell {w : World} {g : Nat} {cs : Array Value} {t : TypeId} (h : Stays w g cs t) (j : Nat) : w.cell? ⟨g, j, none⟩ = cs[j]? := cell_of_row _ _ _ _ _ _ h

/-- One operation of a region that draws, by its run. -/
theorem step_run {P : Program} {ops : Array Oper} {oi : Oper} {N : Option Tmp} {a : Act} {w w' : World} {v : Value} {K : Act → World → Prop} {Q : Exit → Act → World → Prop} (hw : Region.wanted oi (yielded ops a.tmps) = true) (hN : oi.dst = N)
    (hrun : (execOp a.eval oi).run P w = .ok (.value v) w') (h : K (a.put N v) w') : if Region.wanted oi (yielded ops a.tmps) = true then Oper.wp P oi a w K Q else K (a.put N undef) w := by
  rw [if_pos hw]
  subst hN
  unfold Oper.wp
  rw [hrun]
  exact h
theorem step_skip {P : Program} {ops : Array Oper} {oi : Oper} {N : Option Tmp} {a : Act} {w w' : World} {K : Act → World → Prop} {Q : Exit → Act → World → Prop} (hw : Region.wanted oi (yielded ops a.tmps) = true) (hN : oi.dst = N)
    (hrun : (execOp a.eval oi).run P w = .ok .skip w') (h : K (a.put N undef) w') : if Region.wanted oi (yielded ops a.tmps) = true then Oper.wp P oi a w K Q else K (a.put N undef) w := by
  rw [if_pos hw]
  subst hN
  unfold Oper.wp
  rw [hrun]
  exact h


/-! ### A variable that is written whole -/
section
variable {w w0 : World} {g g' t t' : Nat} {cs vs : Array Value}
theorem Stays.there (h : Stays w g cs t) : w.there g 0 cs.size := fun j hj => by
  rw [h.cell, Nat.zero_add]
  exact ⟨by simp [hj], frozen_of_row h _⟩
theorem setCells_var (h : Stays w g cs t) (hl : vs.size = cs.size) : Stays (w.setCells g 0 vs.toList) g vs t := by
  obtain ⟨cur, h3, h4, h5⟩ := setCells_row vs.toList 0 w _ h (by simp [hl])
  have hcur : cur = vs := by
    apply Array.ext'
    rw [h5]
    simp [hl]
  rw [hcur] at h3
  exact h3
theorem setCells_stays (h : Stays w g' cs t) (hne : g' ≠ g) (l : List Value) : Stays (w.setCells g 0 l) g' cs t := (setCells_far l 0 g' hne).trans h
theorem setCells_below {B : Nat} (h : Below B w0 w) (hg : B ≤ g) (l : List Value) : Below B w0 (w.setCells g 0 l) := by
  obtain ⟨s1, s2, s3, s4⟩ := setCells_same g l 0 w
  exact ⟨s1.trans h.os, s2.trans h.tape, s3.trans h.output, by rw [s4]; exact h.size, fun k hk => (setCells_far l 0 k (by omega)).trans (h.block k hk)⟩
theorem wpList_store_var {P : Program} {ops : Array Oper} {rest : List Oper} {op : Oper} {a : Act} {Q : Exit → Act → World → Prop} (hgd : op.guard = none) (ty : TypeId) (x y : Operand) (ho : op.op = .store ty x y) (g : Nat) (L : Array Value)
    (hx : a.eval x = .pointer (some ⟨g, 0, none⟩)) (hy : a.eval y = .agg L) (hS : Stays w g cs t) (hl : L.size = cs.size) (hi : (P.info? ty).map (·.size) = some L.size) (h1 : L.all (·.oneCell') = true)
    (h : wpList P ops Q rest (a.put op.dst undef) (w.setCells g 0 L.toList)) : wpList P ops Q (op :: rest) a w :=
  wpList_store_mid hgd ty x y ho g 0 L hx hy (by rw [hl]; exact Stays.there hS) hi h1 h
end

/-- wr is W, but for new blocks and those of S. -/
structure Same (S : Nat → Prop) (W wr : World) : Prop where
  os : wr.os = W.os
  tape : wr.tape = W.tape
  output : wr.output = W.output
  size : W.heap.size ≤ wr.heap.size
  block : ∀ b, b < W.heap.size → ¬ S b → wr.heap[b]? = W.heap[b]?
namespace Same
variable {S : Nat → Prop} {w W wr w1 : World}
theorem refl (S : Nat → Prop) (W : World) : Same S W W := ⟨rfl, rfl, rfl, Nat.le_refl _, fun _ _ _ => rfl⟩
theorem of_below (h : Below W.heap.size W wr) : Same S W wr := ⟨h.os, h.tape, h.output, h.size, fun b hb _ => h.block b hb⟩
theorem move (h : Same S W wr) (hb : Below wr.heap.size wr w1) : Same S W w1 :=
  ⟨hb.os.trans h.os, hb.tape.trans h.tape, hb.output.trans h.output, Nat.le_trans h.size hb.size, fun b hl hs => (hb.block b (Nat.lt_of_lt_of_le hl h.size)).trans (h.block b hl hs)⟩
theorem grown (h : Same S W wr) {row : Option Nat} (hg : wr.grownBy w1 row) (hr : ∀ k, row = some k → S k ∨ W.heap.size ≤ k) : Same S W w1 :=
  ⟨hg.os.trans h.os, hg.tape.trans h.tape, hg.output.trans h.output, Nat.le_trans h.size hg.size, fun b hl hs => (hg.block b (Nat.lt_of_lt_of_le hl h.size) (fun e => by
    rcases hr b e.symm with h1 | h1
    · exact hs h1
    · omega)).trans (h.block b hl hs)⟩
theorem set (h : Same S W wr) {a : Addr} (ha : S a.block ∨ W.heap.size ≤ a.block) (v : Value) : Same S W (wr.setCell a v) :=
  ⟨h.os, h.tape, h.output, by simpa [World.setCell] using h.size, fun b hl hs => (heap_setCell_other wr a b v (fun e => by
    rcases ha with h1 | h1
    · exact hs (e ▸ h1)
    · omega)).trans (h.block b hl hs)⟩
theorem drew (h : Same S W wr) : Same S W wr.drew := ⟨h.os, h.tape, h.output, h.size, h.block⟩
theorem stays (h : Same S W wr) {g t : Nat} {cs : Array Value} (hs : Stays W g cs t) (hn : ¬ S g) : Stays wr g cs t := (h.block g (Array.getElem?_eq_some_iff.1 hs).1 hn).trans hs
theorem toR (h : Same S W wr) {α : Type} {d : Kd α} {e base : Nat} {ok : Nat → Prop} {v : Value} {xs : List α} (hR : d.R e W base ok v xs) (hok : ∀ k, ok k → ¬ S k) : d.R e wr base ok v xs := Kd.R_step hR (fun k ho hk => h.block k hk (hok k ho))
theorem below (h : Same S W wr) (hb : Below w.heap.size w W) (hS : ∀ k, S k → w.heap.size ≤ k) : Below w.heap.size w wr :=
  ⟨h.os.trans hb.os, h.tape.trans hb.tape, h.output.trans hb.output, Nat.le_trans hb.size h.size, fun b hl => (h.block b (Nat.lt_of_lt_of_le hl hb.size) (fun e => by have := hS b e; omega)).trans (hb.block b hl)⟩
end Same
theorem stays_set {w : World} {g t : Nat} {cs : Array Value} (h : Stays w g cs t) (j : Nat) (v : Value) : Stays (w.setCell ⟨g, j, none⟩ v) g (cs.setIfInBounds j v) t := heap_setCell_same w g j cs t v h
theorem stays_far {w : World} {g t : Nat} {cs : Array Value} (h : Stays w g cs t) {a : Addr} (ha : g ≠ a.block) (v : Value) : Stays (w.setCell a v) g cs t := (heap_setCell_other w a g v ha).trans h

theorem R_setCells {α : Type} {dk : Kd α} {e base g t : Nat} {ok : Nat → Prop} {w : World} {v : Value} {xs : List α} {cs : Array Value} (h : dk.R e w base ok v xs) (hb : Stays w g cs t) (ht : ∀ q, q ∈ e :: dk.E → q ≠ t) (l : List Value) : dk.R e (w.setCells g 0 l) base ok v xs :=
  Kd.R_mono (Kd.R_step (Kd.R_types h hb ht) (fun _ ho _ => setCells_far l 0 _ ho.2)) (fun _ hk => hk.1)
theorem R_set {α : Type} {dk : Kd α} {e base g t : Nat} {ok : Nat → Prop} {w : World} {v : Value} {xs : List α} {cs : Array Value} (h : dk.R e w base ok v xs) (hb : Stays w g cs t) (ht : ∀ q, q ∈ e :: dk.E → q ≠ t) (j : Nat) (u : Value) : dk.R e (w.setCell ⟨g, j, none⟩ u) base ok v xs := Kd.R_set h hb ht j u

end Go.Proofs.YtckjffhimofikaaDoor.KBase
