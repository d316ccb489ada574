/- Arrays and structs as values: loaded from any address, a new variable that is written at once. -/
import Derived.WalkKit
import Derived.OwnWalk
import Derived.Laws.Rows
import Derived.Laws.CopyRow
import Derived.Below
namespace Go.Proofs.Ythaiodklfoegiaa.BRow
open Go.RowKit

section
variable {P : Program} {ops : Array Oper} {rest : List Oper} {o o1 o2 : Oper} {a : Act} {w : World} {Q : Exit → Act → World → Prop}
def aggDesc : TypeDesc → Bool
  | .struct _ | .array _ _ => true
  | _ => false
theorem run_loadVar_at (ty : TypeId) (a0 : Addr) (cs : List Value) (hc : ∀ j v, cs[j]? = some v → w.cell? (a0.add j) = some v) (d : TypeDesc) (hu : P.underlying ty = some d) (hd : aggDesc d = true)
    (hi : (P.info? ty).map (·.size) = some cs.length) : (loadVar ty a0).run P w = .ok (.agg cs.toArray) w := by
  have hl : (loadCells a0 cs.length).run P w = .ok cs.toArray w := run_loadCells_list (P := P) w a0 cs hc
  cases hq : P.info? ty with
  | none => simp [hq] at hi
  | some i =>
    have hs : i.size = cs.length := by simpa [hq] using hi
    have hagg : (isAgg ty).run P w = .ok true w := by
      unfold isAgg
      rw [Sem.run_bind, run_underlying hu w]
      cases d <;> simp_all [aggDesc]
    simp [loadVar, Sem.run_bind, hagg, sizeOf, typeInfo, hq, hs, hl]
theorem wp_load_at (ty : TypeId) (x : Operand) (ho : o.op = .load ty x) (a0 : Addr) (hx : a.eval x = .pointer (some a0)) (cs : List Value) (hc : ∀ j v, cs[j]? = some v → w.cell? (a0.add j) = some v)
    (d : TypeDesc) (hu : P.underlying ty = some d) (hd : aggDesc d = true) (hi : (P.info? ty).map (·.size) = some cs.length) {K : Act → World → Prop} (h : K (a.put o.dst (.agg cs.toArray)) w) : o.wp P a w K Q := by
  unfold Oper.wp execOp
  simp only [ho, hx, Instr.loadAt, Instr.sureAddr, Sem.run_bind, Sem.run_pure, Result.andThen_ok, run_loadVar_at ty a0 cs hc d hu hd hi]
  exact h
theorem wpList_load_at (hgd : o.guard = none) (ty : TypeId) (x : Operand) (ho : o.op = .load ty x) (a0 : Addr) (hx : a.eval x = .pointer (some a0)) (cs : List Value) (hc : ∀ j v, cs[j]? = some v → w.cell? (a0.add j) = some v)
    (d : TypeDesc) (hu : P.underlying ty = some d) (hd : aggDesc d = true) (hi : (P.info? ty).map (·.size) = some cs.length) (h : wpList P ops Q rest (a.put o.dst (.agg cs.toArray)) w) : wpList P ops Q (o :: rest) a w :=
  wpList_plain hgd fun _ hK => wp_load_at ty x ho a0 hx cs hc d hu hd hi (hK _ _ h)

theorem setRow_alloc (w : World) (cur L : Array Value) (t : TypeId) : (w.alloc (.cells cur t)).setRow w.heap.size L = w.alloc (.cells L t) := by
  have : ((w.heap.push (.cells cur t)).modify w.heap.size fun | .cells _ elem frozen => .cells L elem frozen | o => o) = w.heap.push (.cells L t) := by
    apply Array.ext
    · simp
    · intro i h1 h2
      rw [Array.getElem_modify]
      by_cases h : w.heap.size = i
      · subst h; simp
      · rw [if_neg h, Array.getElem_push, Array.getElem_push]
        split
        · rfl
        · rename_i h3; simp at h1; omega
  exact congrArg (fun h => ({ w with heap := h } : World)) this
theorem run_storeVar_new (ty : TypeId) (cur L : Array Value) (hi : (P.info? ty).map (·.size) = some L.size) (hs : cur.size = L.size) (h1 : ∀ v ∈ L.toList, v.oneCell' = true) :
    (storeVar ty ⟨w.heap.size, 0, none⟩ (.agg L)).run P (w.alloc (.cells cur ty)) = .ok () (w.alloc (.cells L ty)) := by
  cases hq : P.info? ty with
  | none => simp [hq] at hi
  | some i =>
    have hsz : i.size = L.size := by simpa [hq] using hi
    have hg : (w.alloc (.cells cur ty)).heap[w.heap.size]? = some (.cells cur ty (0, 0)) := heap_alloc_new w _
    have hst := run_storeCells_at P w.heap.size 0 ty L.toList 0 cur (w.alloc (.cells cur ty)) hg (by simp; omega) h1
    have e : cur.toList.take (0 + 0) ++ L.toList ++ cur.toList.drop (0 + 0 + L.toList.length) = L.toList := by
      simp; omega
    rw [e, Array.toArray_toList, setRow_alloc] at hst
    simp [storeVar, sizeOf, typeInfo, hq, Value.cells, hsz, hst]
theorem wpList_store_new (hg2 : o2.guard = none) (ty : TypeId) (p : Operand) (x : Operand) (ho2 : o2.op = .store ty p x) (cur L : Array Value) (hi : (P.info? ty).map (·.size) = some L.size) (hs : cur.size = L.size) (h1 : ∀ v ∈ L.toList, v.oneCell' = true)
    (hx : a.eval x = .agg L) (hp : a.eval p = .pointer (some ⟨w.heap.size, 0, none⟩))
    (h : wpList P ops Q rest (a.put o2.dst undef) (w.alloc (.cells L ty))) : wpList P ops Q (o2 :: rest) a (w.alloc (.cells cur ty)) := by
  refine wpList_plain hg2 fun K' hK' => ?_
  unfold Oper.wp execOp
  have hst := run_storeVar_new (P := P) (w := w) ty cur L hi hs h1
  simp only [ho2, hx, hp, Instr.storeAt, Instr.sureAddr, Sem.run_bind, Sem.run_pure, Result.andThen_ok, hst]
  exact hK' _ _ h
theorem wpList_alloc_store (hg1 : o1.guard = none) (hg2 : o2.guard = none) (ty : TypeId) (d : Tmp) (x : Operand) (ho1 : o1.op = .alloc ty) (hd1 : o1.dst = some d) (ho2 : o2.op = .store ty (.tmp d) x) (cur L : Array Value) (z : Value)
    (hz : (zeroValue ty).run P w = .ok z w) (hzc : z.cells = cur) (hi : (P.info? ty).map (·.size) = some L.size) (hs : cur.size = L.size) (h1 : ∀ v ∈ L.toList, v.oneCell' = true)
    (hx : (a.put (some d) (.pointer (some ⟨w.heap.size, 0, none⟩))).eval x = .agg L) (hp : (a.put (some d) (.pointer (some ⟨w.heap.size, 0, none⟩))).eval (.tmp d) = .pointer (some ⟨w.heap.size, 0, none⟩))
    (h : wpList P ops Q rest ((a.put (some d) (.pointer (some ⟨w.heap.size, 0, none⟩))).put o2.dst undef) (w.alloc (.cells L ty))) : wpList P ops Q (o1 :: o2 :: rest) a w := by
  rw [← hd1] at hx hp h
  refine wpList_plain hg1 fun K hK => ?_
  have hv : (newVar ty z).run P w = .ok ⟨w.heap.size, 0, none⟩ (w.alloc (.cells cur ty)) := by
    rw [← hzc]; rfl
  unfold Oper.wp execOp
  simp only [ho1, Instr.alloc, Sem.run_bind, hz, Result.andThen_ok, hv, Sem.run_pure]
  refine hK _ _ (wpList_plain hg2 fun K' hK' => ?_)
  unfold Oper.wp execOp
  have hst := run_storeVar_new (P := P) (w := w) ty cur L hi hs h1
  simp only [ho2, hx, hp, Instr.storeAt, Instr.sureAddr, Sem.run_bind, Sem.run_pure, Result.andThen_ok, hst]
  exact hK' _ _ h
end
end Go.Proofs.Ythaiodklfoegiaa.BRow
