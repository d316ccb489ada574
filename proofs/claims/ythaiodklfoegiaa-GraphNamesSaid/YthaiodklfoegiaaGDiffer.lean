/- graph.differ: whether no two lines are equal. -/
import Derived.Test.YthaiodklfoegiaaProg
import Derived.Test.YthaiodklfoegiaaBMap
import Derived.Test.YthaiodklfoegiaaBRow
import Derived.Test.YthaiodklfoegiaaWWords
import Derived.Test.YthaiodklfoegiaaWArr
import Derived.Test.YthaiodklfoegiaaWLast
import Derived.WalkKit
import Derived.OwnWalk
import Derived.Deep.LoopGhost
import Derived.RegionTactic
import Derived.BigRegion
import Derived.Deep.Draws
import Derived.Deep.RegionWith
import Derived.DeepKeys5
import Derived.ChangeSlices
import Derived.Carry
import Derived.Outline
import Derived.Deep.DeepMust
import Derived.Test.YthaiodklfoegiaaWGuard
namespace Go.Proofs.Ythaiodklfoegiaa.GDiffer
open Go.RowKit Go.Proofs.YthaiodklfoegiaaW.PrintWords Go.Proofs.YthaiodklfoegiaaW.PrintLast Go.Proofs.Ythaiodklfoegiaa.BMap Go.Proofs.Ythaiodklfoegiaa.BRow Go.Maps

theorem laidOut : laidOutB Try.prog = true := by kernel_rfl
theorem line_law : WideMaps.KeyLaw Try.prog 65 := deep_law_gate laidOut (of_decide_eq_true (by kernel_rfl)) (of_decide_eq_true (by kernel_rfl)) (by kernel_rfl) (by kernel_rfl)
theorem type65 : Try.prog.keyType 65 = true := by kernel_rfl
theorem cells65 : Try.prog.cellsOf 65 = 64 := by kernel_rfl
theorem cells31 : Try.prog.cellsOf 31 = 1 := by kernel_rfl
theorem depth : ∃ d, Try.prog.types.size + 1 = d + 2 := ⟨Try.prog.types.size - 1, by have : 1 ≤ Try.prog.types.size := of_decide_eq_true (by kernel_rfl); omega⟩

/-- A line: 64 masks. -/
def lineOk (l : List Int) : Prop := l.length = 64 ∧ ∀ x ∈ l, (Lit.int .u16 x).wf = true
def lineV (l : List Int) : Value := .agg (nums .u16 l).toArray
theorem line_is (l : List Int) (h : lineOk l) : ∃ x, keyOf Try.prog 65 (lineV l) = some x := by
  obtain ⟨h1, h2⟩ := h
  have hk : Try.prog.keyLits (Try.prog.types.size + 1) 65 (nums .u16 l) = some (((List.range 64).map fun i => [Lit.int .u16 (l.getD i 0)]).flatten) := by
    obtain ⟨dep, hdep⟩ := depth
    rw [hdep]
    unfold Program.keyLits
    rw [Try.underlying65]
    simp only [cells65, nums_length, h1, if_true, cells31]
    rw [Go.ChangeShapes.mapM_range_of (g := fun i => [Lit.int .u16 (l.getD i 0)]) 64 ?_]
    · rfl
    · intro i hi
      have hl : i < l.length := by omega
      have e : ((nums .u16 l).drop (i * 1)).take 1 = [Value.int .u16 (l.getD i 0)] := by
        rw [Nat.mul_one, List.drop_eq_getElem_cons (by simpa [nums] using hl)]
        simp [nums, hl]
      rw [e]
      unfold Program.keyLits
      rw [Try.underlying31]
      have := h2 (l.getD i 0) (by simp [hl])
      simpa using this
  unfold keyOf
  rw [Try.underlying65]
  have hf : (lineV l).formed Try.prog 65 = true := by
    simp [Value.formed, lineV, Try.underlying65, cells65, h1, nums_length]
  simp only [type65, hf, Bool.and_self, if_true]
  show ∃ x, (Try.prog.keyLits (Try.prog.types.size + 1) 65 (nums .u16 l).toArray.toList).map _ = some x
  rw [List.toList_toArray, hk]
  exact ⟨_, rfl⟩
theorem nums_inj {k : IntKind} {a b : List Int} (h : nums k a = nums k b) : a = b := by
  have := congrArg (List.map fun | Value.int _ n => n | _ => 0) h
  simpa [nums, Function.comp_def] using this
theorem line_key : KeyOk Try.prog 65 lineV lineOk := ⟨Keyed.of_law line_law, line_is, fun a b h => by
  simp only [lineV, Value.agg.injEq] at h
  exact nums_inj (by simpa using congrArg Array.toList h)⟩

abbrev kLine : Kd (List Int) := Kd.arr 64 (Kd.int .u16) (by decide)
abbrev MapL := MapF lineV (Value.int .i64) lineOk

open Classical in
/-- How many different lines there are (the last one first). -/
noncomputable def kindsR : List (List Int) → Nat
  | [] => 0
  | l :: r => kindsR r + if l ∈ r then 0 else 1
noncomputable def kinds (l : List (List Int)) : Nat := kindsR l.reverse
open Classical in
theorem kinds_snoc (l : List (List Int)) (x : List Int) : kinds (l ++ [x]) = kinds l + if x ∈ l then 0 else 1 := by
  simp [kinds, kindsR]
theorem kindsR_le : ∀ l, kindsR l ≤ l.length
  | [] => Nat.le_refl _
  | l :: r => by have := kindsR_le r; simp only [kindsR, List.length_cons]; split <;> omega
theorem kindsR_eq : ∀ l, kindsR l = l.length ↔ l.Nodup
  | [] => by simp [kindsR]
  | l :: r => by
    have h1 := kindsR_le r
    have h2 := kindsR_eq r
    simp only [kindsR, List.length_cons, List.nodup_cons]
    split
    · rename_i h; constructor
      · intro h'; omega
      · intro h'; exact absurd h h'.1
    · rename_i h; constructor
      · intro h'; exact ⟨h, h2.1 (by omega)⟩
      · intro h'; have := h2.2 h'.2; omega
theorem kinds_eq (l : List (List Int)) : kinds l = l.length ↔ l.Nodup := by
  rw [kinds, ← List.length_reverse, kindsR_eq]
  simp only [List.Nodup, List.pairwise_reverse, ne_comm]

theorem nums_one (k : IntKind) (l : List Int) : ∀ v ∈ (nums k l).toArray.toList, v.oneCell' = true := by
  intro v hv
  rw [List.toList_toArray] at hv
  obtain ⟨x, _, rfl⟩ := List.mem_map.1 hv
  rfl

/-- One operation of a region that draws, by its run. -/
theorem step_run {P : Program} {ops : Array Oper} {oi : Oper} {N : Option Tmp} {a : Act} {w w' : World} {v : Value} {K : Act → World → Prop} {Q : Exit → Act → World → Prop} (hw : Region.wanted oi (yielded ops a.tmps) = true) (hN : oi.dst = N)
    (hrun : (execOp a.eval oi).run P w = .ok (.value v) w') (h : K (a.put N v) w') : if Region.wanted oi (yielded ops a.tmps) = true then Oper.wp P oi a w K Q else K (a.put N undef) w := by
  rw [if_pos hw]
  subst hN
  unfold Oper.wp
  rw [hrun]
  exact h
theorem step_skip {P : Program} {ops : Array Oper} {oi : Oper} {N : Option Tmp} {a : Act} {w w' : World} {K : Act → World → Prop} {Q : Exit → Act → World → Prop} (hw : Region.wanted oi (yielded ops a.tmps) = true) (hN : oi.dst = N)
    (hrun : (execOp a.eval oi).run P w = .ok .skip w') (h : K (a.put N undef) w') : if Region.wanted oi (yielded ops a.tmps) = true then Oper.wp P oi a w K Q else K (a.put N undef) w := by
  rw [if_pos hw]
  subst hN
  unfold Oper.wp
  rw [hrun]
  exact h

structure Rel (ls : List (List Int)) (w : World) (k : Nat) (wr : World) (f : List Int → Option Int) (n : Nat) : Prop where
  map : MapL wr w.heap.size f n
  has : ∀ l, (f l).isSome = true ↔ l ∈ ls.take k
  many : n = kinds (ls.take k)
  below : Below w.heap.size w wr

theorem zero65 (w : World) : ∃ cur, (zeroValue 65).run Try.prog w = .ok (.agg cur) w ∧ cur.size = 64 := ⟨Array.replicate 64 (.int .u16 0), by kernel_rfl, by simp⟩
theorem zero3 (w : World) : (zeroValue 3).run Try.prog w = .ok (.int .i64 0) w := by kernel_rfl

set_option maxHeartbeats 2000000 in
set_option maxRecDepth 100000 in
theorem differ_calls (A : Option Addr) (c : Nat) (ls : List (List Int)) (w : World) (hC : kLine.C w A ls.length ls) (hok : ∀ l ∈ ls, lineOk l) :
    Calls Try.prog 35 #[.slice A ls.length c] w fun e w' => e = .returned (.bool (open Classical in decide ls.Nodup)) ∧ Below w.heap.size w w' := by
  have HC := Aside0.mk hC
  have HOK := Aside0.mk hok
  have hmax : ls.length ≤ 9223372036854775807 := hC.2.1
  clear hC hok
  have hmm := @run_makeMap Try.prog
  go_enter Try.func35, Try.ntmps35
  go_wp2
  clear hmm
  go_loopw [9] (fun v wr => ∃ (k : Nat) (f : List Int → Option Int) (n : Nat), k ≤ ls.length ∧ v = .int .i64 k ∧ Rel ls w k wr f n) (fun v _ => ls.length - (intOf v).toNat)
  case atStart => exact ⟨0, _, _, Nat.zero_le _, rfl, ⟨MapF.made w, by simp, by simp [kinds, kindsR], (Below.refl _ _).alloc (Nat.le_refl _) _⟩⟩
  case round =>
    obtain ⟨k, f, n, hk, rfl, hR⟩ := hrel
    have HR := Aside0.mk hR
    clear hR
    by_cases hlt : k < ls.length
    · obtain ⟨ad, cs, e0, hl, hK, hcell⟩ := Kd.C_get HC.out ([] : List Int) (k : Int) (by omega) (by omega)
      cases e0
      have hlo := HOK.out (ls[k]) (List.getElem_mem hlt)
      have hget : ls.getD (k : Int).toNat [] = ls[k] := by simp [hlt]
      rw [hget] at hK
      obtain ⟨_, rfl⟩ := Kd.arr_cells hK
      have hcw : ∀ (j : Nat) (v : Value), (nums .u16 ls[k])[j]? = some v → wr.cell? ((ad.add (k * 64)).add j) = some v := by
        intro j v hj
        have : w.cell? (ad.add (k * 64 + j)) = some v := hcell j v hj
        rw [← add_add] at this
        rw [HR.out.below.cell (World.block_lt_of_cell? w _ this)]
        exact this
      have HCW := Aside0.mk hcw
      have HLO := Aside0.mk hlo
      clear hl hK hcell hget hcw hlo
      obtain ⟨cur, hz, hcur⟩ := zero65 wr
      have HZ := Aside0.mk hz
      have HCUR := Aside0.mk hcur
      clear hz hcur
      go_wp2_with (first | ((with_reducible refine gate_dst (N := 12) rfl ?_); refine wpList_load_at rfl 65 (.tmp 11) rfl (ad.add (k * 64)) rfl (nums .u16 ls[k]) HCW.out _ Try.underlying65 rfl ?hi ?_; (case hi => rw [nums_length, HLO.out.1]; kernel_rfl); refine wpList_alloc_store rfl rfl 65 5 (.tmp 12) rfl rfl rfl cur (nums .u16 ls[k]).toArray _ HZ.out rfl ?hj ?hs ?h1 ?hx ?hp ?_; (case hx => rfl); (case hp => rfl); (case hj => rw [List.size_toArray, nums_length, HLO.out.1]; kernel_rfl); (case hs => exact HCUR.out.trans (by rw [List.size_toArray, nums_length, HLO.out.1])); (case h1 => exact nums_one _ _)))
      obtain ⟨W2, hW2⟩ : ∃ W2, W2 = wr.alloc (.cells (nums .u16 ls[k]).toArray 65) := ⟨_, rfl⟩
      have HM := HR.out.map.alloc (.cells (nums .u16 ls[k]).toArray 65)
      have HRow : (wr.alloc (.cells (nums .u16 ls[k]).toArray 65)).heap[wr.heap.size]? = some (.cells (nums .u16 ls[k]).toArray 65 (0, 0)) := heap_alloc_new wr _
      have HB := HR.out.below.alloc HR.out.below.size (.cells (nums .u16 ls[k]).toArray 65)
      rw [← hW2] at HM HRow HB ⊢
      clear hW2
      have HM := Aside0.mk HM
      have HRow := Aside0.mk HRow
      have HB := Aside0.mk HB
      simp only [Act.put, List.setIfInBounds_toArray, List.set_cons_succ, List.set_cons_zero]
      obtain ⟨w3, stamp, hrun, hM3, hg3, hst⟩ := (HM.out.drew).entry line_key Try.underlying102 (zv := 0) (zero3 W2.drew) (k := ls[k]) HLO.out
      refine start_ (n := 7) (S := fun w' => w'.heap[wr.heap.size]? = some (.cells (nums .u16 ls[k]).toArray 65 (0, 0)) ∧ (Instr.lookup 102 (.map (some w.heap.size)) (lineV ls[k]) false).run Try.prog w' = .ok (.int .i64 ((f ls[k]).getD 0)) w') (ds := [6]) #[false, false, false, false, false, false, false] (by kernel_rfl) rfl rfl ⟨HRow.out, ?hlk⟩ (fun hHeld => ?_)
      case hlk =>
        have hq := (HM.out.drew).lookup line_key Try.underlying102 (zero3 W2.drew) HLO.out false
        have e : ((f ls[k]).map (Value.int IntKind.i64)).getD (.int .i64 0) = .int .i64 ((f ls[k]).getD 0) := by cases f ls[k] <;> rfl
        simp only [Bool.false_eq_true, if_false, e] at hq
        exact hq
      refine pure_ (i := 0) (N := some 13) (v := ?_) (a' := ?_) #[true, false, false, false, false, false, false] rfl rfl (by kernel_rfl) (fun _ _ _ h => h) (Or.inl ⟨by rfl, ?_⟩) ?_ ?_
      rotate_left
      · intro w'
        go_simp
        with_reducible rfl
      rotate_left
      · simp only [Act.put, List.setIfInBounds_toArray, List.set_cons_zero, List.set_cons_succ]
        rfl
      refine take_ (i := 1) (N := some 14) (v := ?_) (a' := ?_) #[true, true, false, false, false, false, false] rfl rfl (by kernel_rfl) (fun _ _ _ h => h) (Or.inl ⟨by rfl, ?_⟩) hHeld ?_ ?_
      rotate_left
      · rintro w' ⟨s0, s1⟩
        have hl := run_loadVar_row (P := Try.prog) w' wr.heap.size 65 65 (nums .u16 ls[k]).toArray (0, 0) _ s0 Try.underlying65 rfl (by rw [List.size_toArray, nums_length, HLO.out.1]; kernel_rfl)
        simp only [execOp, Act.eval, Instr.loadAt, Instr.sureAddr]
        simp
        rw [hl]
        rfl
      rotate_left
      · simp only [Act.put, List.setIfInBounds_toArray, List.set_cons_zero, List.set_cons_succ]
        rfl
      refine take_ (i := 2) (N := some 15) (v := ?_) (a' := ?_) #[true, true, true, false, false, false, false] rfl rfl (by kernel_rfl) (fun _ _ _ h => h) (Or.inl ⟨by rfl, ?_⟩) hHeld ?_ ?_
      rotate_left
      · rintro w' ⟨s0, s1⟩
        have s1' : (Instr.lookup 102 (.map (some w.heap.size)) (.agg (nums .u16 ls[k]).toArray) false).run Try.prog w' = .ok (.int .i64 ((f ls[k]).getD 0)) w' := s1
        simp [execOp, Act.eval, s1']
        rfl
      rotate_left
      · simp only [Act.put, List.setIfInBounds_toArray, List.set_cons_zero, List.set_cons_succ]
        rfl
      refine pure_ (i := 3) (N := some 16) (v := ?_) (a' := ?_) #[true, true, true, true, false, false, false] rfl rfl (by kernel_rfl) (fun _ _ _ h => h) (Or.inl ⟨by rfl, ?_⟩) ?_ ?_
      rotate_left
      · intro w'
        go_simp
        with_reducible rfl
      rotate_left
      · simp only [Act.put, List.setIfInBounds_toArray, List.set_cons_zero, List.set_cons_succ]
        rfl
      refine one_ (i := 4) (N := some 17) #[true, true, true, true, true, false, false] rfl rfl (by kernel_rfl) (by decide) (fun K hK => ?_)
      refine step_run (w' := w3) (v := .tuple #[.int .i64 ((f ls[k]).getD 0), .int .i64 stamp]) rfl rfl ?_ ?_
      · have hrun' : (Instr.mapEntry 102 (.map (some w.heap.size)) (.agg (nums .u16 ls[k]).toArray)).run Try.prog W2.drew = .ok (.tuple #[.int .i64 ((f ls[k]).getD 0), .int .i64 stamp]) w3 := hrun
        simp [execOp, Act.eval, hrun']
      refine hK.out _ _ ⟨?_, ?_⟩ (fun hHeld3 => ?_)
      · rw [hg3.block _ (Array.getElem?_eq_some_iff.1 HRow.out).1 (by simp; have := HR.out.map.lt; omega)]
        exact HRow.out
      · have hq := hM3.lookup line_key Try.underlying102 (zero3 w3) HLO.out false
        simp only [upd_same, Bool.false_eq_true, if_false] at hq
        exact hq
      clear hK K
      refine pure_ (i := 5) (N := some 18) (v := ?_) (a' := ?_) #[true, true, true, true, true, true, false] rfl rfl (by kernel_rfl) (fun _ _ _ h => h) (Or.inl ⟨by rfl, ?_⟩) ?_ ?_
      rotate_left
      · intro w'
        go_simp
        with_reducible rfl
      rotate_left
      · simp only [Act.put, List.setIfInBounds_toArray, List.set_cons_zero, List.set_cons_succ]
        rfl
      refine last_ (i := 6) (N := none) #[true, true, true, true, true, true, true] rfl rfl (by kernel_rfl) (by decide) (fun K hK => ?_)
      obtain ⟨w4, hrun4, hM4, hg4⟩ := hst (IntKind.i64.wrap ((f ls[k]).getD 0 + 1))
      refine step_skip (w' := w4) rfl rfl ?_ ?_
      · simp [execOp, Act.eval, hrun4]
      refine hK.out _ _ ?_
      clear hK K
      refine done_ (by kernel_rfl) ?_
      have HM4 := Aside0.mk hM4
      have HG4 := Aside0.mk hg4
      clear hM4 hg4 hrun4 hst hM3 hg3 hrun hHeld hHeld3
      go_wp2
      go_roundw
      case rel =>
        refine ⟨k + 1, _, _, by omega, by go_num, HM4.out, ?_, ?_, ?_⟩
        · intro l
          rw [List.take_succ_eq_append_getElem hlt, List.mem_append, List.mem_singleton, ← HR.out.has l]
          by_cases h : l = ls[k]
          · subst h; simp [upd_same]
          · simp [upd_other _ _ h, h]
        · rw [List.take_succ_eq_append_getElem hlt, kinds_snoc, ← HR.out.many]
          congr 1
          have := HR.out.has ls[k]
          by_cases h : ls[k] ∈ ls.take k
          · rw [if_pos h, if_pos (this.2 h)]
          · rw [if_neg h, if_neg (fun e => h (this.1 e))]
        · exact (HB.out.drew).grown HG4.out HB.out.size (fun k hk => by cases hk; exact Nat.le_refl _)
      case measure => simp [intOf]; omega
    · have hkk : k = ls.length := by omega
      subst hkk
      have hlen := HR.out.map.len Try.underlying102 3
      go_wp2
      go_ret
      refine ⟨?_, HR.out.below⟩
      show Ending.returned (Value.bool ((n : Int) == (ls.length : Int))) = _
      congr 2
      have h1 := HR.out.many
      rw [List.take_length] at h1
      have h2 := kinds_eq ls
      rw [← h1] at h2
      rw [Bool.eq_iff_iff, beq_iff_eq, decide_eq_true_iff, ← h2]
      omega
end Go.Proofs.Ythaiodklfoegiaa.GDiffer
