/- Several texts of this session in one file, in their build order: BOpen, BGraph, BMap, BRow, GDiffer, WMore, Flt, PGx0, MLines, MPut, MClose, MConcat, MStand, PGx33, MSide, PGx3, PGx4, PGx5, VPure, MPol, PGraphDecidex0. -/
import Derived.Test.YthaiodklfoegiaaRows
import Derived.Test.YthaiodklfoegiaaWWords
import Derived.Deep.Slices
import Derived.ChangeArms
import Derived.WalkKit
import Derived.ProofKit
import Derived.OpenShut
import Derived.ShutString
import Derived.ChangeOld
import Derived.Below
import Derived.SizedLaws
import Derived.Maps.Keyed
import Derived.Maps.Own
import Derived.OwnWalk
import Derived.Deep.Draws
import Derived.Laws.Rows
import Derived.Laws.CopyRow
import Derived.Test.YthaiodklfoegiaaProg
import Derived.Test.YthaiodklfoegiaaWArr
import Derived.Test.YthaiodklfoegiaaWLast
import Derived.Deep.LoopGhost
import Derived.RegionTactic
import Derived.BigRegion
import Derived.Deep.RegionWith
import Derived.DeepKeys5
import Derived.ChangeSlices
import Derived.Carry
import Derived.Outline
import Derived.Deep.DeepMust
import Derived.Test.YthaiodklfoegiaaWGuard
import Derived.Test.YthaiodklfoegiaaWQPut
import Derived.Test.YthaiodklfoegiaaWApart
import Derived.Test.YthaiodklfoegiaaWZeros
import Derived.Test.YthaiodklfoegiaaWFoot
import Derived.Test.YthaiodklfoegiaaWKept
import Derived.Deep.AppendLies
import Derived.Maps.AppendAt
import Derived.Laws.BytesArg
import Derived.Laws.MakeOwn
import Derived.Laws.OwnMore
import Derived.Deep.OwnRows
import Derived.Tactics
import Derived.Lib.ConvBytes
import Derived.Laws.Slices
import Derived.KernelRfl
import Derived.RowKit3
import Derived.Deep.QuietTactic
import Derived.BigQuiet
import Derived.WideLaws
import Derived.Deep.DeepCutAuto
import Derived.Deep.CutBlock
import Derived.Deep.RegionHeld3
import Derived.Lib.AppendStr
import Derived.ArgAppend
import Derived.Laws.IdiomCopy
import Derived.OrdersHeld
import Derived.Laws.BitsLemmas
import Derived.RowKit
import Derived.Test.YthaiodklfoegiaaWEqStruct
import Derived.StringKeys
import Derived.WideKeyElems
import Derived.OneCell
import Derived.Deep.DeepAppendRoom
import Derived.Deep.MidRow
/- What an argument of a law reads as: out of the statement's own reading of it, a plain Lean value of its kind (for every type of bools, whole numbers, floats, strings, slices and structs), with the bounds that the statement lays upon it. -/
namespace Go.Proofs.Ythaiodklfoegiaa.Opens
open Go.RowKit Go.Deep Go.Proofs.YthaiodklfoegiaaW.PrintWords

/-- good: what holds of each value; m: how much it bears (at most the reading's bulk). -/
structure Opens {α : Type} (P : Program) (T : TypeId) (d : Kd α) (good : α → Prop) (m : α → Nat) : Prop where
  out : ∀ {H : Type} (enc : TypeId × Value → H) (w : World) (fuel : Nat) (cs : List Value) (x : DataW H × List MemPlace), DataW.trod enc P w 0 (fun _ => true) true fuel T cs = some x →
    (DataW.weights P T x.1).all (· ≤ reachBytes) = true → ∃ a, d.K w a cs ∧ good a ∧ m a ≤ Rows.uptoBulk x.1

section
variable {P : Program} {T e : TypeId}
theorem opens_int {k : IntKind} (h : P.underlying T = some (.int k)) : Opens P T (Kd.int k) (fun x => (Lit.int k x).wf = true) (fun _ => 1) := ⟨fun enc w fuel cs x hx _ => by
  obtain ⟨n, rfl, rfl, hw⟩ := DataW.trod_int h hx
  exact ⟨n, rfl, hw, by simp [Rows.uptoBulk]⟩⟩
theorem opens_bool (h : P.underlying T = some .bool) : Opens P T Kd.bool (fun _ => True) (fun _ => 1) := ⟨fun enc w fuel cs x hx _ => by
  obtain ⟨n, rfl, rfl⟩ := DataW.trod_bool h hx
  exact ⟨n, rfl, trivial, by simp [Rows.uptoBulk]⟩⟩
theorem opens_string (h : P.underlying T = some .string) : Opens P T Kd.string (fun s => s.size ≤ 140737488351232) (fun s => s.size + 1) := ⟨fun enc w fuel cs x hx hs => by
  obtain ⟨s, rfl, rfl, hw⟩ := DataW.trod_string h hx
  refine ⟨s, rfl, ?_, ?_⟩
  · simp [DataW.weights, reachBytes] at hs
    exact of_decide_eq_true hs
  · show s.size + 1 ≤ s.data.toList.length + 1
    rw [Array.length_toList]; exact Nat.le_refl _⟩
/-- A float, by its bits. -/
def flt : Kd Nat := Kd.scalar (Value.float .f64) (fun _ => rfl)
theorem opens_float (h : P.underlying T = some (.float .f64)) : Opens P T flt (fun x => (Lit.float .f64 x).wf = true) (fun _ => 1) := ⟨fun enc w fuel cs x hx _ => by
  cases fuel with
  | zero => simp [DataW.trod] at hx
  | succ n =>
    unfold DataW.trod at hx
    rw [h] at hx
    split at hx <;> simp_all
    obtain ⟨⟨hk, hw⟩, rfl⟩ := hx
    subst_vars
    exact ⟨_, rfl, hw, by simp [Rows.uptoBulk]⟩⟩

theorem weightsAll_mem {H : Type} {P : Program} {e : TypeId} {p : Nat → Bool} : ∀ {l : List (DataW H)}, (DataW.weightsAll P e l).all p = true → ∀ x ∈ l, (DataW.weights P e x).all p = true
  | [], _, x, hx => by cases hx
  | y :: r, h, x, hx => by
    simp only [DataW.weightsAll, List.all_append, Bool.and_eq_true] at h
    rcases List.mem_cons.1 hx with rfl | hx
    · exact h.1
    · exact weightsAll_mem h.2 x hx

/-- How much a list bears. -/
def all {α : Type} (m : α → Nat) (l : List α) : Nat := (l.map m).sum + 1

theorem bulkAll_le {H α : Type} {m : α → Nat} : ∀ {l : List (DataW H)} {r : List α}, l.length = r.length → (∀ (i : Nat) (x : DataW H) (a : α), l[i]? = some x → r[i]? = some a → m a ≤ Rows.uptoBulk x) → (r.map m).sum ≤ Rows.uptoBulkAll l
  | [], [], _, _ => by simp [Rows.uptoBulkAll]
  | x :: l, a :: r, hl, h => by
    have h0 := h 0 x a rfl rfl
    have h1 := bulkAll_le (m := m) (l := l) (r := r) (by simpa using hl) (fun i x a hx ha => h (i + 1) x a (by simpa using hx) (by simpa using ha))
    simp only [List.map_cons, List.sum_cons, Rows.uptoBulkAll]
    omega

theorem opens_slice {α : Type} {d : Kd α} {good : α → Prop} {m : α → Nat} (E : Nat) (ht : P.underlying T = some (.slice e)) (hsz : P.cellsOf e = d.sz) (h : Opens P e d good m) :
    Opens P T (Kd.slice E d) (fun l => l.length ≤ 9223372036854775807 ∧ l.length * P.bytesOf e ≤ 140737488351232 ∧ ∀ x ∈ l, good x) (all m) := ⟨fun enc w fuel cs x hx hs => by
  rcases open_slice ht hx with ⟨rfl, rfl⟩ | ⟨a, len, cap, m', n, D, Pl, rfl, _, hl, hm, hmm, rfl, hel⟩
  · exact ⟨[], ⟨none, 0, rfl, Nat.le_refl _, rfl, by simp, fun hh => absurd hh (Nat.lt_irrefl 0)⟩, ⟨by simp, by simp, by simp⟩, by simp [all, Rows.uptoBulk]⟩
  · have hmm' : m' = cap := by simpa using hmm
    subst hmm'
    simp only [DataW.weights, ht, List.all_cons, List.all_append, Bool.and_eq_true] at hs
    obtain ⟨hs0, hs1, _⟩ := hs
    have hw : ∀ i, i < len → ∃ v, (∃ cs', w.cells? 0 (a.add (i * P.cellsOf e)) (P.cellsOf e) = some cs' ∧ d.K w v cs') ∧ good v ∧ m v ≤ Rows.uptoBulk (D i) := by
      intro i hi
      obtain ⟨cs', h1, h2⟩ := hel i (by omega)
      have h3 := weightsAll_mem hs1 (D i) (List.mem_map.2 ⟨i, List.mem_range.2 hi, rfl⟩)
      obtain ⟨v, hv, hg, hb⟩ := h.out enc w n cs' (D i, Pl i) h2 h3
      exact ⟨v, ⟨cs', h1, hv⟩, hg, hb⟩
    have hlen63 : len ≤ 9223372036854775807 := by simp only [maxLen] at hm; omega
    have hbytes : len * P.bytesOf e ≤ 140737488351232 := by
      simp only [List.length_map, List.length_range, reachBytes, decide_eq_true_eq] at hs0
      exact Nat.le_trans (Nat.mul_le_mul_right _ (by omega)) hs0
    rcases Nat.eq_zero_or_pos len with rfl | hp
    · exact ⟨[], ⟨some a, m', rfl, Nat.zero_le _, rfl, by simp, fun hh => absurd hh (Nat.lt_irrefl 0)⟩, ⟨by simp, by simp, by simp⟩, by simp [all, Rows.uptoBulk, Rows.uptoBulkAll]⟩
    · have : Nonempty α := let ⟨v, _⟩ := hw 0 hp; ⟨v⟩
      have : Inhabited α := Classical.inhabited_of_nonempty this
      obtain ⟨V, hV⟩ := choose_lt (α := α) hw
      have hget : ∀ j v, ((List.range len).map V)[j]? = some v → j < len ∧ v = V j := by
        intro j v hj
        have hlt := (List.getElem?_eq_some_iff.1 hj).1
        simp at hlt
        simp [hlt] at hj
        exact ⟨hlt, hj.symm⟩
      refine ⟨(List.range len).map V, ⟨some a, m', by simp, by simpa using hl, by simp, by simpa using hlen63, fun _ => ⟨a, rfl, ?_⟩⟩, ⟨by simpa using hlen63, by simpa using hbytes, ?_⟩, ?_⟩
      · intro j v hj
        obtain ⟨hlt, rfl⟩ := hget j v hj
        obtain ⟨cs', h1, h2⟩ := (hV j hlt).1
        obtain ⟨_, h3, h4⟩ := World.cells?_some h1
        refine ⟨cs', by rw [h3, hsz], h2, fun i u hu => ?_⟩
        have hi : i < P.cellsOf e := by rw [← h3]; exact (List.getElem?_eq_some_iff.1 hu).1
        rw [← hsz, ← Go.Deep.add_add, h4 i hi, hu]
      · intro v hv
        obtain ⟨j, hj, rfl⟩ := List.mem_map.1 hv
        exact (hV j (List.mem_range.1 hj)).2.1
      · show ((List.range len).map V |>.map m).sum + 1 ≤ Rows.uptoBulkAll _ + Rows.uptoBulkAll _ + 1
        have := bulkAll_le (m := m) (l := (List.range len).map D) (r := (List.range len).map V) (by simp) (fun i x b hx hb => by
          obtain ⟨hlt, rfl⟩ := hget i b hb
          have hxD : x = D i := by simp [hlt] at hx; exact hx.symm
          subst hxD
          exact (hV i hlt).2.2)
        omega⟩

/-- The fields of a struct from the offset o on. -/
structure Fields {α : Type} (P : Program) (fs : List Field) (o : Nat) (d : Kd α) (good : α → Prop) (m : α → Nat) : Prop where
  out : ∀ {H : Type} (enc : TypeId × Value → H) (w : World) (n : Nat) (cs : List Value) (xs : List (DataW H × List MemPlace)), xs.length = fs.length →
    (∀ (i : Nat) (f : Field), fs[i]? = some f → DataW.trod enc P w 0 (fun _ => true) true n f.type ((cs.drop f.offset).take (P.cellsOf f.type)) = xs[i]?) →
    (DataW.weightsEach P (fs.map (·.type)) (xs.map (·.1))).all (· ≤ reachBytes) = true → ∃ a, d.K w a ((cs.drop o).take d.sz) ∧ good a ∧ m a ≤ Rows.uptoBulkAll (xs.map (·.1))
theorem fields_one {α : Type} {d : Kd α} {good : α → Prop} {m : α → Nat} (f : Field) (hsz : P.cellsOf f.type = d.sz) (h : Opens P f.type d good m) : Fields P [f] f.offset d good m := ⟨fun enc w n cs xs hl hf hs => by
  match xs, hl with
  | [x], _ =>
    have h0 := hf 0 f rfl
    rw [hsz] at h0
    obtain ⟨a, ha, hg, hm⟩ := h.out enc w n _ x h0 (by simpa [DataW.weightsEach] using hs)
    exact ⟨a, ha, hg, by simp [Rows.uptoBulkAll]; exact hm⟩⟩
theorem fields_cons {α β : Type} {d : Kd α} {d' : Kd β} {good : α → Prop} {good' : β → Prop} {m : α → Nat} {m' : β → Nat} (f : Field) {fs : List Field} {o' : Nat} (hsz : P.cellsOf f.type = d.sz) (ho : o' = f.offset + d.sz)
    (h : Opens P f.type d good m) (h' : Fields P fs o' d' good' m') : Fields P (f :: fs) f.offset (Kd.pair d d') (fun x => good x.1 ∧ good' x.2) (fun x => m x.1 + m' x.2) := ⟨fun enc w n cs xs hl hf hs => by
  match xs, hl with
  | x :: xs, hl =>
    have h0 := hf 0 f rfl
    rw [hsz] at h0
    simp only [List.map_cons, DataW.weightsEach, List.all_append, Bool.and_eq_true] at hs
    obtain ⟨a, ha, hg, hm⟩ := h.out enc w n _ x h0 hs.1
    obtain ⟨b, hb, hg', hm'⟩ := h'.out enc w n cs xs (by simpa using hl) (fun i g hi => by simpa using hf (i + 1) g (by simpa using hi)) hs.2
    refine ⟨(a, b), ⟨_, _, ?_, ha, hb⟩, ⟨hg, hg'⟩, by simp only [List.map_cons, Rows.uptoBulkAll]; omega⟩
    show (cs.drop f.offset).take (d.sz + d'.sz) = _
    rw [List.take_add, List.drop_drop, ho]⟩
theorem opens_struct {α : Type} {d : Kd α} {good : α → Prop} {m : α → Nat} {fs : Array Field} (ht : P.underlying T = some (.struct fs)) (hsz : P.cellsOf T = d.sz) (h : Fields P fs.toList 0 d good m) :
    Opens P T d good (fun x => m x + 1) := ⟨fun enc w fuel cs x hx hs => by
  obtain ⟨xs, n, rfl, rfl, hl, hlen, hf⟩ := DataW.trod_struct ht hx
  simp only [DataW.weights, ht] at hs
  obtain ⟨a, ha, hg, hm⟩ := h.out enc w n cs xs (by simpa using hlen) (fun i f hi => hf i f (by simpa using hi)) hs
  have : (cs.drop 0).take d.sz = cs := by rw [List.drop_zero, ← hsz, ← hl, List.take_length]
  rw [this] at ha
  exact ⟨a, ha, hg, by simp only [Rows.uptoBulk]; omega⟩⟩
theorem opens_iso {α β : Type} {d : Kd α} {good : α → Prop} {m : α → Nat} (f : β → α) (g : α → β) (hfg : ∀ a, f (g a) = a) (h : Opens P T d good m) : Opens P T (Kd.iso d f) (fun b => good (f b)) (fun b => m (f b)) := ⟨fun enc w fuel cs x hx hs => by
  obtain ⟨a, ha, hg, hm⟩ := h.out enc w fuel cs x hx hs
  exact ⟨g a, by show d.K w (f (g a)) cs; rw [hfg]; exact ha, by rw [hfg]; exact hg, by rw [hfg]; exact hm⟩⟩
theorem Opens.imp {α : Type} {d : Kd α} {good good' : α → Prop} {m m' : α → Nat} (h : Opens P T d good m) (hg : ∀ a, good a → good' a) (hm : ∀ a, m' a ≤ m a) : Opens P T d good' m' := ⟨fun enc w fuel cs x hx hs => by
  obtain ⟨a, ha, h1, h2⟩ := h.out enc w fuel cs x hx hs
  exact ⟨a, ha, hg a h1, Nat.le_trans (hm a) h2⟩⟩
end
end Go.Proofs.Ythaiodklfoegiaa.Opens

/- A graph, a triple as they are handed in. -/
namespace Go.Proofs.Ythaiodklfoegiaa.BGraph
open Go.ChangeShapes Go.WideShapes Go.ChangeAt Go.RowKit Go.Proofs.YthaiodklfoegiaaW.PrintWords Go.Proofs.Ythaiodklfoegiaa.Opens
open Go.ChangeMaps (open_string shut_string)

theorem own : ownKnob Try.prog.godebug = none := by kernel_rfl
theorem laidOut : laidOutB Try.prog = true := by kernel_rfl
theorem agg_of_cells {v : Value} {cs : List Value} (h : v.cells.toList = cs) (hl : cs.length ≠ 1) : v = .agg cs.toArray := by
  subst h
  cases v <;> simp [Value.cells] at hl ⊢

/-- A graph and a triple as they are handed in. -/
theorem opened {H : Type} {enc : TypeId × Value → H} {W : World} {v : Value} {d : DataW H} {ps : List MemPlace} (h : DataW.Trod enc Try.prog W 0 (fun _ => true) true 26 v d ps) (hs : (DataW.weights Try.prog 26 d).all (· ≤ reachBytes) = true) :
    ∃ (A0 : Option Addr) (c0 : Nat) (la : List ByteArray) (A1 : Option Addr) (c1 : Nat) (ls : List ByteArray) (A2 : Option Addr) (c2 : Nat) (lo : List ByteArray) (A3 : Option Addr) (c3 : Nat) (of : List Int) (A4 : Option Addr) (c4 : Nat) (on : List Int) (A5 : Option Addr) (c5 : Nat) (ms : List (List Int)),
      v = .agg #[.slice A0 la.length c0, .slice A1 ls.length c1, .slice A2 lo.length c2, .slice A3 of.length c3, .slice A4 on.length c4, .slice A5 ms.length c5] ∧
      (la.length ≤ c0 ∧ Kd.C Kd.string W A0 la.length la) ∧ (ls.length ≤ c1 ∧ Kd.C Kd.string W A1 ls.length ls) ∧ (lo.length ≤ c2 ∧ Kd.C Kd.string W A2 lo.length lo) ∧
      (of.length ≤ c3 ∧ Kd.C (Kd.int .i64) W A3 of.length of) ∧ (on.length ≤ c4 ∧ Kd.C (Kd.int .i64) W A4 on.length on) ∧ (ms.length ≤ c5 ∧ Kd.C (Kd.slice 31 (Kd.int .u16)) W A5 ms.length ms) ∧
      la.length ≤ 9223372036854775807 ∧ ls.length ≤ 9223372036854775807 ∧ lo.length ≤ 9223372036854775807 ∧ ms.length ≤ 9223372036854775807 ∧ (∀ r ∈ ms, r.length ≤ 9223372036854775807) ∧
      (∀ x ∈ of, (Lit.int .i64 x).wf = true) ∧ (∀ x ∈ on, (Lit.int .i64 x).wf = true) ∧ (∀ r ∈ ms, ∀ x ∈ r, (Lit.int .u16 x).wf = true) := by
  have oS := opens_slice (P := Try.prog) 9 (e := 9) Try.underlying22 (by kernel_rfl) (opens_string Try.underlying9)
  have oI := opens_slice (P := Try.prog) 3 (e := 3) Try.underlying23 (by kernel_rfl) (opens_int Try.underlying3)
  have oM := opens_slice (P := Try.prog) 32 (e := 32) Try.underlying24 (by kernel_rfl) (opens_slice 31 (e := 31) Try.underlying32 (by kernel_rfl) (opens_int Try.underlying31))
  have oG := opens_struct (P := Try.prog) (T := 26) Try.underlying26 (by kernel_rfl) (fields_cons (o' := 1) _ (by kernel_rfl) (by rfl) oS (fields_cons (o' := 2) _ (by kernel_rfl) (by rfl) oS (fields_cons (o' := 3) _ (by kernel_rfl) (by rfl) oS
    (fields_cons (o' := 4) _ (by kernel_rfl) (by rfl) oI (fields_cons (o' := 5) _ (by kernel_rfl) (by rfl) oI (fields_one _ (by kernel_rfl) oM))))))
  obtain ⟨fuel, hf⟩ := h
  obtain ⟨⟨la, ls, lo, of, on, ms⟩, hK, hg, _⟩ := oG.out enc W fuel _ _ hf hs
  obtain ⟨_, _, e0, ⟨A0, c0, rfl, h0⟩, _, _, rfl, ⟨A1, c1, rfl, h1⟩, _, _, rfl, ⟨A2, c2, rfl, h2⟩, _, _, rfl, ⟨A3, c3, rfl, h3⟩, _, _, rfl, ⟨A4, c4, rfl, h4⟩, ⟨A5, c5, rfl, h5⟩⟩ := hK
  have hv := agg_of_cells e0 (by simp)
  subst hv
  obtain ⟨g0, g1, g2, g3, g4, g5⟩ := hg
  exact ⟨A0, c0, la, A1, c1, ls, A2, c2, lo, A3, c3, of, A4, c4, on, A5, c5, ms, by simp, h0, h1, h2, h3, h4, h5, g0.1, g1.1, g2.1, g5.1, fun r hr => (g5.2.2 r hr).1, g3.2.2, g4.2.2, fun r hr => (g5.2.2 r hr).2.2⟩

theorem opened_triple {H : Type} {enc : TypeId × Value → H} {W : World} {v : Value} {d : DataW H} {ps : List MemPlace} (h : DataW.Trod enc Try.prog W 0 (fun _ => true) true 28 v d ps) (hs : (DataW.weights Try.prog 28 d).all (· ≤ reachBytes) = true) :
    ∃ a b c : ByteArray, v = .agg #[.string a, .string b, .string c] := by
  have oS := opens_string (P := Try.prog) Try.underlying9
  have oT := opens_struct (P := Try.prog) (T := 28) Try.underlying28 (by kernel_rfl) (fields_cons (o' := 1) _ (by kernel_rfl) (by rfl) oS (fields_cons (o' := 2) _ (by kernel_rfl) (by rfl) oS (fields_one _ (by kernel_rfl) oS)))
  obtain ⟨fuel, hf⟩ := h
  obtain ⟨⟨a, b, c⟩, hK, _, _⟩ := oT.out enc W fuel _ _ hf hs
  obtain ⟨_, _, e0, rfl, _, _, rfl, rfl, rfl⟩ := hK
  have hv := agg_of_cells e0 (by simp)
  subst hv
  exact ⟨a, b, c, by simp⟩

theorem i64_of {x : Int} (h : (Lit.int .i64 x).wf = true) : -9223372036854775808 ≤ x ∧ x ≤ 9223372036854775807 := by
  simp [Lit.wf, IntKind.min, IntKind.max, IntKind.signed, IntKind.bits] at h; omega
theorem u16_of {x : Int} (h : (Lit.int .u16 x).wf = true) : 0 ≤ x ∧ x ≤ 65535 := by
  simp [Lit.wf, IntKind.min, IntKind.max, IntKind.signed, IntKind.bits] at h; omega

end Go.Proofs.Ythaiodklfoegiaa.BGraph

/- Maps that a call makes: a block that holds a plain finite function; what a look-up, a store, 'm[k] op= v' and len come to. For every key type that the library knows. -/
namespace Go.Proofs.Ythaiodklfoegiaa.BMap
open Go.RowKit Go.Maps Go.ChangeMaps Go.MapKept
open Classical

structure KeyOk {κ : Type} (P : Program) (kT : TypeId) (kenc : κ → Value) (ok : κ → Prop) : Prop where
  law : Keyed P kT
  is : ∀ k, ok k → ∃ l, keyOf P kT (kenc k) = some l
  inj : ∀ a b, kenc a = kenc b → a = b

noncomputable def upd {κ β : Type} (f : κ → Option β) (k : κ) (v : β) : κ → Option β := fun x => if x = k then some v else f x
theorem upd_same {κ β : Type} (f : κ → Option β) (k : κ) (v : β) : upd f k v k = some v := by simp [upd]
theorem upd_other {κ β : Type} (f : κ → Option β) {k x : κ} (v : β) (h : x ≠ k) : upd f k v x = f x := by simp [upd, h]
theorem upd_upd {κ β : Type} (f : κ → Option β) (k : κ) (v v' : β) : upd (upd f k v) k v' = upd f k v' := by
  funext x
  by_cases h : x = k <;> simp [upd, h]

/-- Block b of w is a map that holds f, of n keys. -/
structure MapF {κ β : Type} (kenc : κ → Value) (venc : β → Value) (ok : κ → Prop) (w : World) (b : Nat) (f : κ → Option β) (n : Nat) : Prop where
  out : ∃ (es : Array MapEntry) (clock : Nat) (l : List (κ × β)), w.heap[b]? = some (.map es clock) ∧ es.toList.map (fun e => (e.key, e.val)) = l.map (fun p => (kenc p.1, venc p.2)) ∧ (∀ p ∈ l, ok p.1) ∧ (l.map (·.1)).Nodup ∧
    (∀ e ∈ es.toList, e.born < clock) ∧ (es.toList.map (·.born)).Nodup ∧ (∀ k v, (k, v) ∈ l ↔ f k = some v) ∧ n = l.length

section
variable {κ β : Type} {P : Program} {kT e t : TypeId} {kenc : κ → Value} {venc : β → Value} {ok : κ → Prop} {w : World} {b n : Nat} {f : κ → Option β}

theorem MapF.made (w : World) : MapF kenc venc ok (w.alloc (.map #[] 0)) w.heap.size (fun _ => none) 0 :=
  ⟨#[], 0, [], (MapKept.heap_alloc w _).1, by simp, by simp, by simp, by simp, by simp, by simp, rfl⟩
theorem MapF.move {w' : World} (h : MapF kenc venc ok w b f n) (hb : w'.heap[b]? = w.heap[b]?) : MapF kenc venc ok w' b f n := by
  obtain ⟨es, c, l, h1, r⟩ := h.out
  exact ⟨es, c, l, hb.trans h1, r⟩
theorem MapF.lt (h : MapF kenc venc ok w b f n) : b < w.heap.size := by
  obtain ⟨es, c, l, h1, r⟩ := h.out
  exact (Array.getElem?_eq_some_iff.1 h1).1
theorem MapF.alloc (h : MapF kenc venc ok w b f n) (o : Obj) : MapF kenc venc ok (w.alloc o) b f n := h.move (Below.heap_alloc w o b h.lt)
theorem MapF.drewN (h : MapF kenc venc ok w b f n) (m : Nat) : MapF kenc venc ok (w.drewN m) b f n := h.move rfl
theorem MapF.drew (h : MapF kenc venc ok w b f n) : MapF kenc venc ok w.drew b f n := h.move rfl
theorem MapF.grown {w' : World} {row : Option Nat} (h : MapF kenc venc ok w b f n) (hg : w.grownBy w' row) (hne : some b ≠ row) : MapF kenc venc ok w' b f n := h.move (hg.block b h.lt hne)
theorem MapF.below {w' : World} (h : MapF kenc venc ok w b f n) (hb : Below w.heap.size w w') : MapF kenc venc ok w' b f n := h.move (hb.block b h.lt)
theorem MapF.setCell (h : MapF kenc venc ok w b f n) {p : Addr} (hp : p.block ≠ b) (u : Value) : MapF kenc venc ok (w.setCell p u) b f n := h.move (Below.heap_setCell w p u b (fun e => hp e.symm))

/-- What the search for a key finds. -/
theorem found (K : KeyOk P kT kenc ok) {es : Array MapEntry} {l : List (κ × β)} (hl : es.toList.map (fun e => (e.key, e.val)) = l.map (fun p => (kenc p.1, venc p.2))) (hok : ∀ p ∈ l, ok p.1) {k : κ} (hk : ok k) (w : World) :
    ((Instr.findKey kT (kenc k) es.toList).run P w = .ok none w ∧ ∀ v, (k, v) ∉ l) ∨
    ∃ (j : Nat) (v : β) (e0 : MapEntry), (Instr.findKey kT (kenc k) es.toList).run P w = .ok (some (j, venc v)) w ∧ l[j]? = some (k, v) ∧ es[j]? = some e0 ∧ e0.key = kenc k ∧ e0.val = venc v := by
  obtain ⟨kl, hkl⟩ := K.is k hk
  have hes : ∀ e ∈ es.toList, ∃ l, keyOf P kT e.key = some l := by
    intro e he
    have : (e.key, e.val) ∈ l.map (fun p => (kenc p.1, venc p.2)) := by rw [← hl]; exact List.mem_map.2 ⟨e, he, rfl⟩
    obtain ⟨p, hp, h1⟩ := List.mem_map.1 this
    obtain ⟨q, hq⟩ := K.is p.1 (hok p hp)
    exact ⟨q, by rw [← (Prod.mk.inj h1).1]; exact hq⟩
  have at_ : ∀ j : Nat, (es.toList[j]?).map (fun e => (e.key, e.val)) = (l[j]?).map (fun p => (kenc p.1, venc p.2)) := by
    intro j
    have := congrArg (fun x => x[j]?) hl
    simpa using this
  rcases K.law.find w hkl es.toList hes with ⟨h1, h2⟩ | ⟨j, e0, h1, h2, h3⟩
  · refine .inl ⟨h1, fun v hv => ?_⟩
    have : (kenc k, venc v) ∈ es.toList.map (fun e => (e.key, e.val)) := by rw [hl]; exact List.mem_map.2 ⟨(k, v), hv, rfl⟩
    obtain ⟨e, he, h4⟩ := List.mem_map.1 this
    exact h2 e he (Prod.mk.inj h4).1
  · have h4 := at_ j
    rw [h2] at h4
    cases hp : l[j]? with
    | none => rw [hp] at h4; simp at h4
    | some p =>
      rw [hp] at h4
      simp only [Option.map_some, Option.some.injEq, Prod.mk.injEq] at h4
      have h5 : p.1 = k := K.inj _ _ (h4.1.symm.trans h3)
      refine .inr ⟨j, p.2, e0, by rw [← h4.2]; exact h1, by rw [← h5]; exact hp, by simpa using h2, h3, h4.2⟩

theorem MapF.lookup (h : MapF kenc venc ok w b f n) (K : KeyOk P kT kenc ok) (ht : P.underlying t = some (.map kT e)) {z : Value} (hz : (zeroValue e).run P w = .ok z w) {k : κ} (hk : ok k) (c : Bool) :
    (Instr.lookup t (.map (some b)) (kenc k) c).run P w = .ok (if c then .tuple #[((f k).map venc).getD z, .bool (f k).isSome] else ((f k).map venc).getD z) w := by
  obtain ⟨es, clock, l, hb, hl, hok, hnd, _, _, hf, _⟩ := h.out
  obtain ⟨kl, hkl⟩ := K.is k hk
  rcases found K hl hok hk w with ⟨h1, h2⟩ | ⟨j, v, e0, h1, h2, _⟩
  · have : f k = none := by
      cases hfk : f k with
      | none => rfl
      | some v => exact absurd ((hf k v).2 hfk) (h2 v)
    simp [Instr.lookup, run_underlying ht, MapKept.run_getObj_map hb, K.law.check w _ hkl, h1, hz, Result.andThen, this]
  · have : f k = some v := (hf k v).1 (List.mem_of_getElem? h2)
    simp [Instr.lookup, run_underlying ht, MapKept.run_getObj_map hb, K.law.check w _ hkl, h1, Result.andThen, this]

theorem MapF.len (h : MapF kenc venc ok w b f n) (ht : P.underlying t = some (.map kT e)) (ty : TypeId) : (Builtin.len_ #[t] ty #[.map (some b)]).run P w = .ok (.int .i64 n) w := by
  obtain ⟨es, clock, l, hb, hl, _, _, _, _, _, rfl⟩ := h.out
  have : es.size = l.length := by
    have := congrArg List.length hl
    simpa using this
  simp [Builtin.len_, run_underlying ht, MapKept.run_getObj_map hb, Result.andThen, goInt, this]

/-- A new key at the end. -/
theorem put_new {es : Array MapEntry} {clock : Nat} {l : List (κ × β)} (hb : w.heap[b]? = some (.map es clock)) (hl : es.toList.map (fun e => (e.key, e.val)) = l.map (fun p => (kenc p.1, venc p.2))) (hok : ∀ p ∈ l, ok p.1)
    (hnd : (l.map (·.1)).Nodup) (hbo : ∀ e ∈ es.toList, e.born < clock) (hbn : (es.toList.map (·.born)).Nodup) (hf : ∀ k v, (k, v) ∈ l ↔ f k = some v) {k : κ} (hk : ok k) (hno : ∀ v, (k, v) ∉ l) (v : β) :
    MapF kenc venc ok (setBlock w b (.map (es.push { key := kenc k, val := venc v, born := clock }) (clock + 1))) b (upd f k v) (l.length + 1) := by
  refine ⟨_, _, l ++ [(k, v)], heap_setBlock_same hb _, by simp [hl], ?_, ?_, ?_, ?_, ?_, by simp⟩
  · intro p hp
    rcases List.mem_append.1 hp with hp | hp
    · exact hok p hp
    · rw [List.mem_singleton.1 hp]; exact hk
  · rw [List.map_append, List.nodup_append]
    refine ⟨hnd, by simp, ?_⟩
    intro a ha b' hb' e
    simp at hb'
    subst hb'
    subst e
    obtain ⟨p, hp, rfl⟩ := List.mem_map.1 ha
    exact hno p.2 hp
  · intro e he
    simp at he
    rcases he with he | rfl
    · have := hbo e (by simpa using he); omega
    · simp
  · rw [Array.toList_push, List.map_append, List.nodup_append]
    refine ⟨hbn, by simp, ?_⟩
    intro a ha b' hb' e
    simp at hb'
    subst hb'
    obtain ⟨x, hx, rfl⟩ := List.mem_map.1 ha
    have := hbo x hx
    omega
  · intro k' v'
    rw [List.mem_append, hf]
    by_cases h : k' = k
    · subst h
      have : f k' = none := by
        cases hfk : f k' with
        | none => rfl
        | some x => exact absurd ((hf k' x).2 hfk) (hno x)
      rw [this, upd_same]; simp [eq_comm]
    · rw [upd_other f v h]; simp [h]

/-- An entry set anew, in its place. -/
theorem put_old {es : Array MapEntry} {clock : Nat} {l : List (κ × β)} (hb : w.heap[b]? = some (.map es clock)) (hl : es.toList.map (fun e => (e.key, e.val)) = l.map (fun p => (kenc p.1, venc p.2))) (hok : ∀ p ∈ l, ok p.1)
    (hnd : (l.map (·.1)).Nodup) (hbo : ∀ e ∈ es.toList, e.born < clock) (hbn : (es.toList.map (·.born)).Nodup) (hf : ∀ k v, (k, v) ∈ l ↔ f k = some v) {k : κ} {v0 : β} {j : Nat} (hj : l[j]? = some (k, v0)) (v : β) (g : MapEntry → MapEntry)
    (hg : ∀ e0, es[j]? = some e0 → (g e0).key = kenc k ∧ (g e0).val = venc v ∧ (g e0).born = e0.born) :
    MapF kenc venc ok (setBlock w b (.map (es.modify j g) clock)) b (upd f k v) l.length := by
  have hjl : j < l.length := (List.getElem?_eq_some_iff.1 hj).1
  have hlen : es.size = l.length := by have := congrArg List.length hl; simpa using this
  have hje : j < es.size := by omega
  obtain ⟨g1, g2, g3⟩ := hg es[j] (Array.getElem?_eq_getElem hje)
  have hlist : (es.modify j g).toList = es.toList.set j (g es[j]) := by
    rw [Array.toList_modify, modify_eq_set _ _ _ es[j] (by simp [hje])]
  refine ⟨es.modify j g, clock, l.set j (k, v), heap_setBlock_same hb _, ?_, ?_, ?_, ?_, ?_, ?_, by simp⟩
  · rw [hlist, List.map_set, hl, List.map_set, g1, g2]
  · intro p hp
    rcases List.mem_or_eq_of_mem_set hp with hp | rfl
    · exact hok p hp
    · exact hok (k, v0) (List.mem_of_getElem? hj)
  · rw [List.map_set]
    have : (l.map (·.1)).set j k = l.map (·.1) := by
      apply List.ext_getElem?
      intro i
      rw [List.getElem?_set]
      split
      · rename_i h; subst h; rw [List.getElem?_map, hj]; simp [hjl]
      · rfl
    rw [this]; exact hnd
  · intro e he
    rw [hlist] at he
    rcases List.mem_or_eq_of_mem_set he with he | rfl
    · exact hbo e he
    · rw [g3]; exact hbo _ (by simp)
  · rw [hlist, List.map_set, g3]
    have : (es.toList.map (·.born)).set j es[j].born = es.toList.map (·.born) := by
      apply List.ext_getElem?
      intro i
      rw [List.getElem?_set]
      split
      · rename_i h; subst h; simp [hje]
      · rfl
    rw [this]; exact hbn
  · intro k' v'
    have key : ∀ (i : Nat) (p : κ × β), l[i]? = some p → p.1 = k → i = j := by
      intro i p hi hp
      have hi' : i < (l.map (·.1)).length := by simpa using (List.getElem?_eq_some_iff.1 hi).1
      have h1 : (l.map (·.1))[i]? = some k := by simp [hi, hp]
      have h2 : (l.map (·.1))[j]? = some k := by simp [hj]
      exact (List.getElem?_inj hi' hnd).1 (h1.trans h2.symm)
    by_cases h : k' = k
    · subst h
      rw [upd_same]
      constructor
      · intro hm
        obtain ⟨i, hi⟩ := List.mem_iff_getElem?.1 hm
        rw [List.getElem?_set] at hi
        split at hi
        · simp at hi; exact congrArg some hi
        · rename_i hne
          exact absurd (key i _ hi rfl).symm hne
      · intro hv
        have hv := Option.some.inj hv
        subst hv
        exact List.mem_iff_getElem?.2 ⟨j, by simp [hjl]⟩
    · rw [upd_other f v h, ← hf]
      constructor
      · intro hm
        rcases List.mem_or_eq_of_mem_set hm with hm | hm
        · exact hm
        · exact absurd (Prod.mk.inj hm).1 h
      · intro hm
        obtain ⟨i, hi⟩ := List.mem_iff_getElem?.1 hm
        refine List.mem_iff_getElem?.2 ⟨i, ?_⟩
        rw [List.getElem?_set, if_neg ?_]
        · exact hi
        · rintro rfl
          rw [hj] at hi
          exact h (Prod.mk.inj (Option.some.inj hi)).1.symm

theorem grown_setBlock {es es' : Array MapEntry} {clock clock' : Nat} (hb : w.heap[b]? = some (.map es clock)) : w.grownBy (setBlock w b (.map es' clock')) (some b) :=
  ⟨rfl, rfl, rfl, by simp [setBlock], fun i _ hi => heap_setBlock_other hb _ (fun e => hi (by rw [e]))⟩

theorem MapF.update (h : MapF kenc venc ok w b f n) (K : KeyOk P kT kenc ok) (ht : P.underlying t = some (.map kT e)) {k : κ} (hk : ok k) (v : β) :
    ∃ w', (Instr.mapUpdate t (.map (some b)) (kenc k) (venc v)).run P w = .ok () w' ∧ MapF kenc venc ok w' b (upd f k v) (n + if (f k).isSome then 0 else 1) ∧ w.grownBy w' (some b) := by
  obtain ⟨es, clock, l, hb, hl, hok, hnd, hbo, hbn, hf, rfl⟩ := h.out
  obtain ⟨kl, hkl⟩ := K.is k hk
  rcases found K hl hok hk w with ⟨h1, h2⟩ | ⟨j, v0, e0, h1, h2, h3, h4, h5⟩
  · have : f k = none := by
      cases hfk : f k with
      | none => rfl
      | some v => exact absurd ((hf k v).2 hfk) (h2 v)
    refine ⟨_, ?_, by rw [this]; exact put_new hb hl hok hnd hbo hbn hf hk h2 v, grown_setBlock hb⟩
    simp [Instr.mapUpdate, run_underlying ht, MapKept.run_getObj_map hb, K.law.check w false hkl, h1, MapKept.run_setObj_map _ hb, Result.andThen, setBlock]
  · have : f k = some v0 := (hf k v0).1 (List.mem_of_getElem? h2)
    refine ⟨_, ?_, by rw [this]; exact put_old hb hl hok hnd hbo hbn hf h2 v (fun e => { e with key := kenc k, val := venc v }) (fun _ _ => ⟨rfl, rfl, rfl⟩), grown_setBlock hb⟩
    simp [Instr.mapUpdate, run_underlying ht, MapKept.run_getObj_map hb, K.law.check w false hkl, h1, h3, h4, K.law.stays w hkl, MapKept.run_setObj_map _ hb, Result.andThen, setBlock]

theorem run_entryStore {es : Array MapEntry} {clock born i : Nat} (hb : w.heap[b]? = some (.map es clock)) (hidx : es.findIdx? (fun e => (e.born : Int) == (born : Int)) = some i) (v : Value) :
    (Instr.entryStore t (.map (some b)) (.int .i64 born) v).run P w = .ok () (setBlock w b (.map (es.modify i fun e => { e with val := v }) clock)) := by
  simp [Instr.entryStore, MapKept.run_getObj_map hb, asInt, asIntOf, hidx, MapKept.run_setObj_map _ hb, Result.andThen, setBlock]

/-- 'm[k] op= v': the entry is found or made .. -/
theorem MapF.entry (h : MapF kenc venc ok w b f n) (K : KeyOk P kT kenc ok) (ht : P.underlying t = some (.map kT e)) {zv : β} (hz : (zeroValue e).run P w = .ok (venc zv) w) {k : κ} (hk : ok k) :
    ∃ w' stamp, (Instr.mapEntry t (.map (some b)) (kenc k)).run P w = .ok (.tuple #[venc ((f k).getD zv), .int .i64 stamp]) w' ∧ MapF kenc venc ok w' b (upd f k ((f k).getD zv)) (n + if (f k).isSome then 0 else 1) ∧ w.grownBy w' (some b) ∧
      ∀ v, ∃ w'', (Instr.entryStore t (.map (some b)) (.int .i64 stamp) (venc v)).run P w' = .ok () w'' ∧ MapF kenc venc ok w'' b (upd f k v) (n + if (f k).isSome then 0 else 1) ∧ w.grownBy w'' (some b) := by
  obtain ⟨es, clock, l, hb, hl, hok, hnd, hbo, hbn, hf, rfl⟩ := h.out
  obtain ⟨kl, hkl⟩ := K.is k hk
  have hlen : es.size = l.length := by have := congrArg List.length hl; simpa using this
  rcases found K hl hok hk w with ⟨h1, h2⟩ | ⟨j, v0, e0, h1, h2, h3, h4, h5⟩
  · have hn : f k = none := by
      cases hfk : f k with
      | none => rfl
      | some v => exact absurd ((hf k v).2 hfk) (h2 v)
    have hM := put_new hb hl hok hnd hbo hbn hf hk h2 zv
    have hb' : (setBlock w b (.map (es.push { key := kenc k, val := venc zv, born := clock }) (clock + 1))).heap[b]? = some (.map (es.push { key := kenc k, val := venc zv, born := clock }) (clock + 1)) := heap_setBlock_same hb _
    refine ⟨_, clock, ?_, by rw [hn]; exact hM, grown_setBlock hb, fun v => ?_⟩
    · simp [Instr.mapEntry, run_underlying ht, MapKept.run_getObj_map hb, K.law.check w false hkl, h1, hz, MapKept.run_setObj_map _ hb, Result.andThen, setBlock, goInt, hn]
    · have hidx : (es.push { key := kenc k, val := venc zv, born := clock }).findIdx? (fun e => (e.born : Int) == (clock : Int)) = some es.size := by
        rw [Array.findIdx?_eq_some_iff_getElem]
        refine ⟨by simp, by simp, fun i hi => ?_⟩
        have hi' : i < es.size := by omega
        have := hbo es[i] (by simp)
        simp [Array.getElem_push, hi']
        omega
      obtain ⟨hes2, hl2⟩ : (es.push { key := kenc k, val := venc zv, born := clock }).toList.map (fun e => (e.key, e.val)) = (l ++ [(k, zv)]).map (fun p => (kenc p.1, venc p.2)) ∧ True := ⟨by simp [hl], trivial⟩
      have hM2 := put_old (w := setBlock w b (.map (es.push { key := kenc k, val := venc zv, born := clock }) (clock + 1))) (b := b) (f := upd f k zv) (k := k) (v0 := zv) (j := l.length) hb' hes2
        (by obtain ⟨es2, c2, l2, q1, q2, q3, q4, q5, q6, q7, q8⟩ := hM.out
            intro p hp
            rcases List.mem_append.1 hp with hp | hp
            · exact hok p hp
            · rw [List.mem_singleton.1 hp]; exact hk)
        (by rw [List.map_append, List.nodup_append]
            refine ⟨hnd, by simp, ?_⟩
            intro a ha b' hb2 e2
            simp at hb2
            subst hb2
            subst e2
            obtain ⟨p, hp, rfl⟩ := List.mem_map.1 ha
            exact h2 p.2 hp)
        (by intro e1 he
            simp at he
            rcases he with he | rfl
            · have := hbo e1 (by simpa using he); omega
            · simp)
        (by rw [Array.toList_push, List.map_append, List.nodup_append]
            refine ⟨hbn, by simp, ?_⟩
            intro a ha b' hb2 e2
            simp at hb2
            subst hb2
            obtain ⟨x, hx, rfl⟩ := List.mem_map.1 ha
            have := hbo x hx
            omega)
        (by intro k' v'
            rw [List.mem_append, hf]
            by_cases h : k' = k
            · subst h; rw [hn, upd_same]; simp [eq_comm]
            · rw [upd_other f zv h]; simp [h])
        (by simp) v (fun e1 => { e1 with val := venc v }) (fun e1 he1 => by
          rw [← hlen] at he1
          simp at he1
          subst he1
          exact ⟨rfl, rfl, rfl⟩)
      refine ⟨_, ?_, by rw [upd_upd] at hM2; rw [hn]; simpa using hM2, ?_⟩
      · rw [← hlen]
        exact run_entryStore hb' hidx _
      · exact ⟨rfl, rfl, rfl, by simp [setBlock], fun i _ hi => (heap_setBlock_other hb' _ (fun e => hi (by rw [e]))).trans (heap_setBlock_other hb _ (fun e => hi (by rw [e])))⟩
  · have hs : f k = some v0 := (hf k v0).1 (List.mem_of_getElem? h2)
    have hM := put_old hb hl hok hnd hbo hbn hf h2 v0 (fun e => { e with key := kenc k }) (fun e1 he1 => by rw [h3] at he1; cases he1; exact ⟨rfl, h5, rfl⟩)
    have hb' : (setBlock w b (.map (es.modify j (fun e => { e with key := kenc k })) clock)).heap[b]? = some (.map (es.modify j (fun e => { e with key := kenc k })) clock) := heap_setBlock_same hb _
    have hje : j < es.size := (Array.getElem?_eq_some_iff.1 h3).1
    have he0 : es[j] = e0 := by rw [Array.getElem?_eq_getElem hje] at h3; exact Option.some.inj h3
    have hsame : es.modify j (fun e => { e with key := kenc k }) = es := by
      apply Array.ext
      · simp
      · intro i hi1 hi2
        rw [Array.getElem_modify]
        split
        · rename_i h; subst h; rw [he0, ← h4]
        · rfl
    refine ⟨_, e0.born, ?_, by rw [hs]; exact hM, grown_setBlock hb, fun v => ?_⟩
    · simp [Instr.mapEntry, run_underlying ht, MapKept.run_getObj_map hb, K.law.check w false hkl, h1, h3, h4, K.law.stays w hkl, MapKept.run_setObj_map _ hb, Result.andThen, setBlock, goInt, hs]
    · rw [hsame] at hb' ⊢
      have hidx : es.findIdx? (fun e => (e.born : Int) == (e0.born : Int)) = some j := by
        rw [Array.findIdx?_eq_some_iff_getElem]
        refine ⟨hje, by simp [he0], fun i hi => ?_⟩
        have hi' : i < es.size := by omega
        have hne : es[i].born ≠ es[j].born := by
          intro e1
          have h1 : (es.toList.map (·.born))[i]? = (es.toList.map (·.born))[j]? := by simp [hi', hje, e1]
          have := (List.getElem?_inj (by simpa using hi') hbn).1 h1
          omega
        rw [he0] at hne
        simp
        omega
      have hM2 := put_old (w := setBlock w b (.map es clock)) (f := f) hb' hl hok hnd hbo hbn hf h2 v (fun e => { e with val := venc v }) (fun e1 he1 => by rw [h3] at he1; cases he1; exact ⟨h4, rfl, rfl⟩)
      refine ⟨_, ?_, by rw [hs]; exact hM2, ?_⟩
      · exact run_entryStore hb' hidx _
      · exact ⟨rfl, rfl, rfl, by simp [setBlock], fun i _ hi => (heap_setBlock_other hb' _ (fun e => hi (by rw [e]))).trans (heap_setBlock_other hb _ (fun e => hi (by rw [e])))⟩
end
end Go.Proofs.Ythaiodklfoegiaa.BMap

/- Arrays and structs as values: loaded from any address, a new variable that is written at once. -/
namespace Go.Proofs.Ythaiodklfoegiaa.BRow
open Go.RowKit

section
variable {P : Program} {ops : Array Oper} {rest : List Oper} {o o1 o2 : Oper} {a : Act} {w : World} {Q : Exit → Act → World → Prop}
def aggDesc : TypeDesc → Bool
  | .struct _ | .array _ _ => true
  | _ => false
theorem run_loadVar_at (ty : TypeId) (a0 : Addr) (cs : List Value) (hc : ∀ j v, cs[j]? = some v → w.cell? (a0.add j) = some v) (d : TypeDesc) (hu : P.underlying ty = some d) (hd : aggDesc d = true)
    (hi : (P.info? ty).map (·.size) = some cs.length) : (loadVar ty a0).run P w = .ok (.agg cs.toArray) w := by
  have hl : (loadCells a0 cs.length).run P w = .ok cs.toArray w := run_loadCells_list (P := P) w a0 cs hc
  cases hq : P.info? ty with
  | none => simp [hq] at hi
  | some i =>
    have hs : i.size = cs.length := by simpa [hq] using hi
    have hagg : (isAgg ty).run P w = .ok true w := by
      unfold isAgg
      rw [Sem.run_bind, run_underlying hu w]
      cases d <;> simp_all [aggDesc]
    simp [loadVar, Sem.run_bind, hagg, sizeOf, typeInfo, hq, hs, hl]
theorem wp_load_at (ty : TypeId) (x : Operand) (ho : o.op = .load ty x) (a0 : Addr) (hx : a.eval x = .pointer (some a0)) (cs : List Value) (hc : ∀ j v, cs[j]? = some v → w.cell? (a0.add j) = some v)
    (d : TypeDesc) (hu : P.underlying ty = some d) (hd : aggDesc d = true) (hi : (P.info? ty).map (·.size) = some cs.length) {K : Act → World → Prop} (h : K (a.put o.dst (.agg cs.toArray)) w) : o.wp P a w K Q := by
  unfold Oper.wp execOp
  simp only [ho, hx, Instr.loadAt, Instr.sureAddr, Sem.run_bind, Sem.run_pure, Result.andThen_ok, run_loadVar_at ty a0 cs hc d hu hd hi]
  exact h
theorem wpList_load_at (hgd : o.guard = none) (ty : TypeId) (x : Operand) (ho : o.op = .load ty x) (a0 : Addr) (hx : a.eval x = .pointer (some a0)) (cs : List Value) (hc : ∀ j v, cs[j]? = some v → w.cell? (a0.add j) = some v)
    (d : TypeDesc) (hu : P.underlying ty = some d) (hd : aggDesc d = true) (hi : (P.info? ty).map (·.size) = some cs.length) (h : wpList P ops Q rest (a.put o.dst (.agg cs.toArray)) w) : wpList P ops Q (o :: rest) a w :=
  wpList_plain hgd fun _ hK => wp_load_at ty x ho a0 hx cs hc d hu hd hi (hK _ _ h)

theorem setRow_alloc (w : World) (cur L : Array Value) (t : TypeId) : (w.alloc (.cells cur t)).setRow w.heap.size L = w.alloc (.cells L t) := by
  have : ((w.heap.push (.cells cur t)).modify w.heap.size fun | .cells _ elem frozen => .cells L elem frozen | o => o) = w.heap.push (.cells L t) := by
    apply Array.ext
    · simp
    · intro i h1 h2
      rw [Array.getElem_modify]
      by_cases h : w.heap.size = i
      · subst h; simp
      · rw [if_neg h, Array.getElem_push, Array.getElem_push]
        split
        · rfl
        · rename_i h3; simp at h1; omega
  exact congrArg (fun h => ({ w with heap := h } : World)) this
theorem run_storeVar_new (ty : TypeId) (cur L : Array Value) (hi : (P.info? ty).map (·.size) = some L.size) (hs : cur.size = L.size) (h1 : ∀ v ∈ L.toList, v.oneCell' = true) :
    (storeVar ty ⟨w.heap.size, 0, none⟩ (.agg L)).run P (w.alloc (.cells cur ty)) = .ok () (w.alloc (.cells L ty)) := by
  cases hq : P.info? ty with
  | none => simp [hq] at hi
  | some i =>
    have hsz : i.size = L.size := by simpa [hq] using hi
    have hg : (w.alloc (.cells cur ty)).heap[w.heap.size]? = some (.cells cur ty (0, 0)) := heap_alloc_new w _
    have hst := run_storeCells_at P w.heap.size 0 ty L.toList 0 cur (w.alloc (.cells cur ty)) hg (by simp; omega) h1
    have e : cur.toList.take (0 + 0) ++ L.toList ++ cur.toList.drop (0 + 0 + L.toList.length) = L.toList := by
      simp; omega
    rw [e, Array.toArray_toList, setRow_alloc] at hst
    simp [storeVar, sizeOf, typeInfo, hq, Value.cells, hsz, hst]
theorem wpList_store_new (hg2 : o2.guard = none) (ty : TypeId) (p : Operand) (x : Operand) (ho2 : o2.op = .store ty p x) (cur L : Array Value) (hi : (P.info? ty).map (·.size) = some L.size) (hs : cur.size = L.size) (h1 : ∀ v ∈ L.toList, v.oneCell' = true)
    (hx : a.eval x = .agg L) (hp : a.eval p = .pointer (some ⟨w.heap.size, 0, none⟩))
    (h : wpList P ops Q rest (a.put o2.dst undef) (w.alloc (.cells L ty))) : wpList P ops Q (o2 :: rest) a (w.alloc (.cells cur ty)) := by
  refine wpList_plain hg2 fun K' hK' => ?_
  unfold Oper.wp execOp
  have hst := run_storeVar_new (P := P) (w := w) ty cur L hi hs h1
  simp only [ho2, hx, hp, Instr.storeAt, Instr.sureAddr, Sem.run_bind, Sem.run_pure, Result.andThen_ok, hst]
  exact hK' _ _ h
theorem wpList_alloc_store (hg1 : o1.guard = none) (hg2 : o2.guard = none) (ty : TypeId) (d : Tmp) (x : Operand) (ho1 : o1.op = .alloc ty) (hd1 : o1.dst = some d) (ho2 : o2.op = .store ty (.tmp d) x) (cur L : Array Value) (z : Value)
    (hz : (zeroValue ty).run P w = .ok z w) (hzc : z.cells = cur) (hi : (P.info? ty).map (·.size) = some L.size) (hs : cur.size = L.size) (h1 : ∀ v ∈ L.toList, v.oneCell' = true)
    (hx : (a.put (some d) (.pointer (some ⟨w.heap.size, 0, none⟩))).eval x = .agg L) (hp : (a.put (some d) (.pointer (some ⟨w.heap.size, 0, none⟩))).eval (.tmp d) = .pointer (some ⟨w.heap.size, 0, none⟩))
    (h : wpList P ops Q rest ((a.put (some d) (.pointer (some ⟨w.heap.size, 0, none⟩))).put o2.dst undef) (w.alloc (.cells L ty))) : wpList P ops Q (o1 :: o2 :: rest) a w := by
  rw [← hd1] at hx hp h
  refine wpList_plain hg1 fun K hK => ?_
  have hv : (newVar ty z).run P w = .ok ⟨w.heap.size, 0, none⟩ (w.alloc (.cells cur ty)) := by
    rw [← hzc]; rfl
  unfold Oper.wp execOp
  simp only [ho1, Instr.alloc, Sem.run_bind, hz, Result.andThen_ok, hv, Sem.run_pure]
  refine hK _ _ (wpList_plain hg2 fun K' hK' => ?_)
  unfold Oper.wp execOp
  have hst := run_storeVar_new (P := P) (w := w) ty cur L hi hs h1
  simp only [ho2, hx, hp, Instr.storeAt, Instr.sureAddr, Sem.run_bind, Sem.run_pure, Result.andThen_ok, hst]
  exact hK' _ _ h
end
end Go.Proofs.Ythaiodklfoegiaa.BRow

/- graph.differ: whether no two lines are equal. -/
namespace Go.Proofs.Ythaiodklfoegiaa.GDiffer
open Go.RowKit Go.Proofs.YthaiodklfoegiaaW.PrintWords Go.Proofs.YthaiodklfoegiaaW.PrintLast Go.Proofs.Ythaiodklfoegiaa.BMap Go.Proofs.Ythaiodklfoegiaa.BRow Go.Maps

theorem laidOut : laidOutB Try.prog = true := by kernel_rfl
theorem line_law : WideMaps.KeyLaw Try.prog 65 := deep_law_gate laidOut (of_decide_eq_true (by kernel_rfl)) (of_decide_eq_true (by kernel_rfl)) (by kernel_rfl) (by kernel_rfl)
theorem type65 : Try.prog.keyType 65 = true := by kernel_rfl
theorem cells65 : Try.prog.cellsOf 65 = 64 := by kernel_rfl
theorem cells31 : Try.prog.cellsOf 31 = 1 := by kernel_rfl
theorem depth : ∃ d, Try.prog.types.size + 1 = d + 2 := ⟨Try.prog.types.size - 1, by have : 1 ≤ Try.prog.types.size := of_decide_eq_true (by kernel_rfl); omega⟩

/-- A line: 64 masks. -/
def lineOk (l : List Int) : Prop := l.length = 64 ∧ ∀ x ∈ l, (Lit.int .u16 x).wf = true
def lineV (l : List Int) : Value := .agg (nums .u16 l).toArray
theorem line_is (l : List Int) (h : lineOk l) : ∃ x, keyOf Try.prog 65 (lineV l) = some x := by
  obtain ⟨h1, h2⟩ := h
  have hk : Try.prog.keyLits (Try.prog.types.size + 1) 65 (nums .u16 l) = some (((List.range 64).map fun i => [Lit.int .u16 (l.getD i 0)]).flatten) := by
    obtain ⟨dep, hdep⟩ := depth
    rw [hdep]
    unfold Program.keyLits
    rw [Try.underlying65]
    simp only [cells65, nums_length, h1, if_true, cells31]
    rw [Go.ChangeShapes.mapM_range_of (g := fun i => [Lit.int .u16 (l.getD i 0)]) 64 ?_]
    · rfl
    · intro i hi
      have hl : i < l.length := by omega
      have e : ((nums .u16 l).drop (i * 1)).take 1 = [Value.int .u16 (l.getD i 0)] := by
        rw [Nat.mul_one, List.drop_eq_getElem_cons (by simpa [nums] using hl)]
        simp [nums, hl]
      rw [e]
      unfold Program.keyLits
      rw [Try.underlying31]
      have := h2 (l.getD i 0) (by simp [hl])
      simpa using this
  unfold keyOf
  rw [Try.underlying65]
  have hf : (lineV l).formed Try.prog 65 = true := by
    simp [Value.formed, lineV, Try.underlying65, cells65, h1, nums_length]
  simp only [type65, hf, Bool.and_self, if_true]
  show ∃ x, (Try.prog.keyLits (Try.prog.types.size + 1) 65 (nums .u16 l).toArray.toList).map _ = some x
  rw [List.toList_toArray, hk]
  exact ⟨_, rfl⟩
theorem nums_inj {k : IntKind} {a b : List Int} (h : nums k a = nums k b) : a = b := by
  have := congrArg (List.map fun | Value.int _ n => n | _ => 0) h
  simpa [nums, Function.comp_def] using this
theorem line_key : KeyOk Try.prog 65 lineV lineOk := ⟨Keyed.of_law line_law, line_is, fun a b h => by
  simp only [lineV, Value.agg.injEq] at h
  exact nums_inj (by simpa using congrArg Array.toList h)⟩

abbrev kLine : Kd (List Int) := Kd.arr 64 (Kd.int .u16) (by decide)
abbrev MapL := MapF lineV (Value.int .i64) lineOk

open Classical in
/-- How many different lines there are (the last one first). -/
noncomputable def kindsR : List (List Int) → Nat
  | [] => 0
  | l :: r => kindsR r + if l ∈ r then 0 else 1
noncomputable def kinds (l : List (List Int)) : Nat := kindsR l.reverse
open Classical in
theorem kinds_snoc (l : List (List Int)) (x : List Int) : kinds (l ++ [x]) = kinds l + if x ∈ l then 0 else 1 := by
  simp [kinds, kindsR]
theorem kindsR_le : ∀ l, kindsR l ≤ l.length
  | [] => Nat.le_refl _
  | l :: r => by have := kindsR_le r; simp only [kindsR, List.length_cons]; split <;> omega
theorem kindsR_eq : ∀ l, kindsR l = l.length ↔ l.Nodup
  | [] => by simp [kindsR]
  | l :: r => by
    have h1 := kindsR_le r
    have h2 := kindsR_eq r
    simp only [kindsR, List.length_cons, List.nodup_cons]
    split
    · rename_i h; constructor
      · intro h'; omega
      · intro h'; exact absurd h h'.1
    · rename_i h; constructor
      · intro h'; exact ⟨h, h2.1 (by omega)⟩
      · intro h'; have := h2.2 h'.2; omega
theorem kinds_eq (l : List (List Int)) : kinds l = l.length ↔ l.Nodup := by
  rw [kinds, ← List.length_reverse, kindsR_eq]
  simp only [List.Nodup, List.pairwise_reverse, ne_comm]

theorem nums_one (k : IntKind) (l : List Int) : ∀ v ∈ (nums k l).toArray.toList, v.oneCell' = true := by
  intro v hv
  rw [List.toList_toArray] at hv
  obtain ⟨x, _, rfl⟩ := List.mem_map.1 hv
  rfl

/-- One operation of a region that draws, by its run. -/
theorem step_run {P : Program} {ops : Array Oper} {oi : Oper} {N : Option Tmp} {a : Act} {w w' : World} {v : Value} {K : Act → World → Prop} {Q : Exit → Act → World → Prop} (hw : Region.wanted oi (yielded ops a.tmps) = true) (hN : oi.dst = N)
    (hrun : (execOp a.eval oi).run P w = .ok (.value v) w') (h : K (a.put N v) w') : if Region.wanted oi (yielded ops a.tmps) = true then Oper.wp P oi a w K Q else K (a.put N undef) w := by
  rw [if_pos hw]
  subst hN
  unfold Oper.wp
  rw [hrun]
  exact h
theorem step_skip {P : Program} {ops : Array Oper} {oi : Oper} {N : Option Tmp} {a : Act} {w w' : World} {K : Act → World → Prop} {Q : Exit → Act → World → Prop} (hw : Region.wanted oi (yielded ops a.tmps) = true) (hN : oi.dst = N)
    (hrun : (execOp a.eval oi).run P w = .ok .skip w') (h : K (a.put N undef) w') : if Region.wanted oi (yielded ops a.tmps) = true then Oper.wp P oi a w K Q else K (a.put N undef) w := by
  rw [if_pos hw]
  subst hN
  unfold Oper.wp
  rw [hrun]
  exact h

structure Rel (ls : List (List Int)) (w : World) (k : Nat) (wr : World) (f : List Int → Option Int) (n : Nat) : Prop where
  map : MapL wr w.heap.size f n
  has : ∀ l, (f l).isSome = true ↔ l ∈ ls.take k
  many : n = kinds (ls.take k)
  below : Below w.heap.size w wr

theorem zero65 (w : World) : ∃ cur, (zeroValue 65).run Try.prog w = .ok (.agg cur) w ∧ cur.size = 64 := ⟨Array.replicate 64 (.int .u16 0), by kernel_rfl, by simp⟩
theorem zero3 (w : World) : (zeroValue 3).run Try.prog w = .ok (.int .i64 0) w := by kernel_rfl

set_option maxHeartbeats 2000000 in
set_option maxRecDepth 100000 in
theorem differ_calls (A : Option Addr) (c : Nat) (ls : List (List Int)) (w : World) (hC : kLine.C w A ls.length ls) (hok : ∀ l ∈ ls, lineOk l) :
    Calls Try.prog 35 #[.slice A ls.length c] w fun e w' => e = .returned (.bool (open Classical in decide ls.Nodup)) ∧ Below w.heap.size w w' := by
  have HC := Aside0.mk hC
  have HOK := Aside0.mk hok
  have hmax : ls.length ≤ 9223372036854775807 := hC.2.1
  clear hC hok
  have hmm := @run_makeMap Try.prog
  go_enter Try.func35, Try.ntmps35
  go_wp2
  clear hmm
  go_loopw [9] (fun v wr => ∃ (k : Nat) (f : List Int → Option Int) (n : Nat), k ≤ ls.length ∧ v = .int .i64 k ∧ Rel ls w k wr f n) (fun v _ => ls.length - (intOf v).toNat)
  case atStart => exact ⟨0, _, _, Nat.zero_le _, rfl, ⟨MapF.made w, by simp, by simp [kinds, kindsR], (Below.refl _ _).alloc (Nat.le_refl _) _⟩⟩
  case round =>
    obtain ⟨k, f, n, hk, rfl, hR⟩ := hrel
    have HR := Aside0.mk hR
    clear hR
    by_cases hlt : k < ls.length
    · obtain ⟨ad, cs, e0, hl, hK, hcell⟩ := Kd.C_get HC.out ([] : List Int) (k : Int) (by omega) (by omega)
      cases e0
      have hlo := HOK.out (ls[k]) (List.getElem_mem hlt)
      have hget : ls.getD (k : Int).toNat [] = ls[k] := by simp [hlt]
      rw [hget] at hK
      obtain ⟨_, rfl⟩ := Kd.arr_cells hK
      have hcw : ∀ (j : Nat) (v : Value), (nums .u16 ls[k])[j]? = some v → wr.cell? ((ad.add (k * 64)).add j) = some v := by
        intro j v hj
        have : w.cell? (ad.add (k * 64 + j)) = some v := hcell j v hj
        rw [← add_add] at this
        rw [HR.out.below.cell (World.block_lt_of_cell? w _ this)]
        exact this
      have HCW := Aside0.mk hcw
      have HLO := Aside0.mk hlo
      clear hl hK hcell hget hcw hlo
      obtain ⟨cur, hz, hcur⟩ := zero65 wr
      have HZ := Aside0.mk hz
      have HCUR := Aside0.mk hcur
      clear hz hcur
      go_wp2_with (first | ((with_reducible refine gate_dst (N := 12) rfl ?_); refine wpList_load_at rfl 65 (.tmp 11) rfl (ad.add (k * 64)) rfl (nums .u16 ls[k]) HCW.out _ Try.underlying65 rfl ?hi ?_; (case hi => rw [nums_length, HLO.out.1]; kernel_rfl); refine wpList_alloc_store rfl rfl 65 5 (.tmp 12) rfl rfl rfl cur (nums .u16 ls[k]).toArray _ HZ.out rfl ?hj ?hs ?h1 ?hx ?hp ?_; (case hx => rfl); (case hp => rfl); (case hj => rw [List.size_toArray, nums_length, HLO.out.1]; kernel_rfl); (case hs => exact HCUR.out.trans (by rw [List.size_toArray, nums_length, HLO.out.1])); (case h1 => exact nums_one _ _)))
      obtain ⟨W2, hW2⟩ : ∃ W2, W2 = wr.alloc (.cells (nums .u16 ls[k]).toArray 65) := ⟨_, rfl⟩
      have HM := HR.out.map.alloc (.cells (nums .u16 ls[k]).toArray 65)
      have HRow : (wr.alloc (.cells (nums .u16 ls[k]).toArray 65)).heap[wr.heap.size]? = some (.cells (nums .u16 ls[k]).toArray 65 (0, 0)) := heap_alloc_new wr _
      have HB := HR.out.below.alloc HR.out.below.size (.cells (nums .u16 ls[k]).toArray 65)
      rw [← hW2] at HM HRow HB ⊢
      clear hW2
      have HM := Aside0.mk HM
      have HRow := Aside0.mk HRow
      have HB := Aside0.mk HB
      simp only [Act.put, List.setIfInBounds_toArray, List.set_cons_succ, List.set_cons_zero]
      obtain ⟨w3, stamp, hrun, hM3, hg3, hst⟩ := (HM.out.drew).entry line_key Try.underlying102 (zv := 0) (zero3 W2.drew) (k := ls[k]) HLO.out
      refine start_ (n := 7) (S := fun w' => w'.heap[wr.heap.size]? = some (.cells (nums .u16 ls[k]).toArray 65 (0, 0)) ∧ (Instr.lookup 102 (.map (some w.heap.size)) (lineV ls[k]) false).run Try.prog w' = .ok (.int .i64 ((f ls[k]).getD 0)) w') (ds := [6]) #[false, false, false, false, false, false, false] (by kernel_rfl) rfl rfl ⟨HRow.out, ?hlk⟩ (fun hHeld => ?_)
      case hlk =>
        have hq := (HM.out.drew).lookup line_key Try.underlying102 (zero3 W2.drew) HLO.out false
        have e : ((f ls[k]).map (Value.int IntKind.i64)).getD (.int .i64 0) = .int .i64 ((f ls[k]).getD 0) := by cases f ls[k] <;> rfl
        simp only [Bool.false_eq_true, if_false, e] at hq
        exact hq
      refine pure_ (i := 0) (N := some 13) (v := ?_) (a' := ?_) #[true, false, false, false, false, false, false] rfl rfl (by kernel_rfl) (fun _ _ _ h => h) (Or.inl ⟨by rfl, ?_⟩) ?_ ?_
      rotate_left
      · intro w'
        go_simp
        with_reducible rfl
      rotate_left
      · simp only [Act.put, List.setIfInBounds_toArray, List.set_cons_zero, List.set_cons_succ]
        rfl
      refine take_ (i := 1) (N := some 14) (v := ?_) (a' := ?_) #[true, true, false, false, false, false, false] rfl rfl (by kernel_rfl) (fun _ _ _ h => h) (Or.inl ⟨by rfl, ?_⟩) hHeld ?_ ?_
      rotate_left
      · rintro w' ⟨s0, s1⟩
        have hl := run_loadVar_row (P := Try.prog) w' wr.heap.size 65 65 (nums .u16 ls[k]).toArray (0, 0) _ s0 Try.underlying65 rfl (by rw [List.size_toArray, nums_length, HLO.out.1]; kernel_rfl)
        simp only [execOp, Act.eval, Instr.loadAt, Instr.sureAddr]
        simp
        rw [hl]
        rfl
      rotate_left
      · simp only [Act.put, List.setIfInBounds_toArray, List.set_cons_zero, List.set_cons_succ]
        rfl
      refine take_ (i := 2) (N := some 15) (v := ?_) (a' := ?_) #[true, true, true, false, false, false, false] rfl rfl (by kernel_rfl) (fun _ _ _ h => h) (Or.inl ⟨by rfl, ?_⟩) hHeld ?_ ?_
      rotate_left
      · rintro w' ⟨s0, s1⟩
        have s1' : (Instr.lookup 102 (.map (some w.heap.size)) (.agg (nums .u16 ls[k]).toArray) false).run Try.prog w' = .ok (.int .i64 ((f ls[k]).getD 0)) w' := s1
        simp [execOp, Act.eval, s1']
        rfl
      rotate_left
      · simp only [Act.put, List.setIfInBounds_toArray, List.set_cons_zero, List.set_cons_succ]
        rfl
      refine pure_ (i := 3) (N := some 16) (v := ?_) (a' := ?_) #[true, true, true, true, false, false, false] rfl rfl (by kernel_rfl) (fun _ _ _ h => h) (Or.inl ⟨by rfl, ?_⟩) ?_ ?_
      rotate_left
      · intro w'
        go_simp
        with_reducible rfl
      rotate_left
      · simp only [Act.put, List.setIfInBounds_toArray, List.set_cons_zero, List.set_cons_succ]
        rfl
      refine one_ (i := 4) (N := some 17) #[true, true, true, true, true, false, false] rfl rfl (by kernel_rfl) (by decide) (fun K hK => ?_)
      refine step_run (w' := w3) (v := .tuple #[.int .i64 ((f ls[k]).getD 0), .int .i64 stamp]) rfl rfl ?_ ?_
      · have hrun' : (Instr.mapEntry 102 (.map (some w.heap.size)) (.agg (nums .u16 ls[k]).toArray)).run Try.prog W2.drew = .ok (.tuple #[.int .i64 ((f ls[k]).getD 0), .int .i64 stamp]) w3 := hrun
        simp [execOp, Act.eval, hrun']
      refine hK.out _ _ ⟨?_, ?_⟩ (fun hHeld3 => ?_)
      · rw [hg3.block _ (Array.getElem?_eq_some_iff.1 HRow.out).1 (by simp; have := HR.out.map.lt; omega)]
        exact HRow.out
      · have hq := hM3.lookup line_key Try.underlying102 (zero3 w3) HLO.out false
        simp only [upd_same, Bool.false_eq_true, if_false] at hq
        exact hq
      clear hK K
      refine pure_ (i := 5) (N := some 18) (v := ?_) (a' := ?_) #[true, true, true, true, true, true, false] rfl rfl (by kernel_rfl) (fun _ _ _ h => h) (Or.inl ⟨by rfl, ?_⟩) ?_ ?_
      rotate_left
      · intro w'
        go_simp
        with_reducible rfl
      rotate_left
      · simp only [Act.put, List.setIfInBounds_toArray, List.set_cons_zero, List.set_cons_succ]
        rfl
      refine last_ (i := 6) (N := none) #[true, true, true, true, true, true, true] rfl rfl (by kernel_rfl) (by decide) (fun K hK => ?_)
      obtain ⟨w4, hrun4, hM4, hg4⟩ := hst (IntKind.i64.wrap ((f ls[k]).getD 0 + 1))
      refine step_skip (w' := w4) rfl rfl ?_ ?_
      · simp [execOp, Act.eval, hrun4]
      refine hK.out _ _ ?_
      clear hK K
      refine done_ (by kernel_rfl) ?_
      have HM4 := Aside0.mk hM4
      have HG4 := Aside0.mk hg4
      clear hM4 hg4 hrun4 hst hM3 hg3 hrun hHeld hHeld3
      go_wp2
      go_roundw
      case rel =>
        refine ⟨k + 1, _, _, by omega, by go_num, HM4.out, ?_, ?_, ?_⟩
        · intro l
          rw [List.take_succ_eq_append_getElem hlt, List.mem_append, List.mem_singleton, ← HR.out.has l]
          by_cases h : l = ls[k]
          · subst h; simp [upd_same]
          · simp [upd_other _ _ h, h]
        · rw [List.take_succ_eq_append_getElem hlt, kinds_snoc, ← HR.out.many]
          congr 1
          have := HR.out.has ls[k]
          by_cases h : ls[k] ∈ ls.take k
          · rw [if_pos h, if_pos (this.2 h)]
          · rw [if_neg h, if_neg (fun e => h (this.1 e))]
        · exact (HB.out.drew).grown HG4.out HB.out.size (fun k hk => by cases hk; exact Nat.le_refl _)
      case measure => simp [intOf]; omega
    · have hkk : k = ls.length := by omega
      subst hkk
      have hlen := HR.out.map.len Try.underlying102 3
      go_wp2
      go_ret
      refine ⟨?_, HR.out.below⟩
      show Ending.returned (Value.bool ((n : Int) == (ls.length : Int))) = _
      congr 2
      have h1 := HR.out.many
      rw [List.take_length] at h1
      have h2 := kinds_eq ls
      rw [← h1] at h2
      rw [Bool.eq_iff_iff, beq_iff_eq, decide_eq_true_iff, ← h2]
      omega
end Go.Proofs.Ythaiodklfoegiaa.GDiffer

-- PRINTED BY print.sh 35421559b90ae4d0a3588c463048766b98c2df88dd9212a6774a882060cdf62d: not written by this session
-- PRINTED WORDS (module Derived/Print/More.lean): go-gate-2's additions: an AI agent of Go's test side, Tue Nov 17 2026; no person has read it. Lean checks it.
namespace Go.Proofs.YthaiodklfoegiaaW.PrintMore
open Go.RowKit Go.Proofs.YthaiodklfoegiaaW.PrintWords
namespace Kd
open Go.Proofs.YthaiodklfoegiaaW.PrintWords.Kd
/-- Element i of a row of one's own, lent: its cells and what it leads to, as the row has them. -/
theorem R_get {α : Type} {d : Kd α} {e base n cap : Nat} {ok : Nat → Prop} {W : World} {ad : Addr} {xs : List α} (h : d.R e W base ok (.slice (some ad) n cap) xs) (z : α) (i : Int) (h0 : 0 ≤ i) (h1 : i < n) :
    ∃ c, c.length = d.sz ∧ d.M W base (fun k => ok k ∧ some k ≠ (Value.slice (some ad) n cap).ownBlock) (xs.getD i.toNat z) c ∧ ∀ j u, c[j]? = some u → W.cell? (ad.add (i.toNat * d.sz + j)) = some u := by
  obtain ⟨g, hg⟩ : ∃ g, ad = ⟨g, 0, none⟩ := by
    obtain ⟨_, inner, ho, _⟩ := h
    rcases ho.2 with ⟨hv, _⟩ | ⟨g, cap', cur, hv, _⟩
    · cases hv
    · injection hv with ha _ _
      injection ha with ha
      exact ⟨g, ha⟩
  subst hg
  obtain ⟨c, hcl, hM, hcc, _⟩ := R_elem h z i h0 h1
  refine ⟨c, hcl, d.M_mono (fun k hk => ⟨hk.1, fun he => hk.2 ?_⟩) hM, fun j u hu => ?_⟩
  · rw [add_at, Nat.zero_add]
    exact hcc j u hu
  · simpa [Value.ownBlock] using he
end Kd

namespace Kd
open Go.Proofs.YthaiodklfoegiaaW.PrintWords.Kd
section
variable {α : Type} {d : Kd α} {e base g N : Nat} {ok : Nat → Prop} {W w1 : World} {u v : Value} {xs : List α}
/-- An elder row over an event that only makes: its blocks are elder than what was made. -/
theorem R_old (hu : d.R e W base ok u xs) (hb : Below W.heap.size W w1) : d.R e w1 base (fun k => ok k ∧ k < W.heap.size) u xs :=
  R_mono (R_below (R_bound hu) hb) (fun _ h => ⟨h.1, h.2.2.1⟩)
/-- The same over a state's call. -/
theorem R_oldK (hu : d.R e W base (fun k => ok k ∧ k ≠ g) u xs) (hk : KeepBut W w1 g none) : d.R e w1 base (fun k => ok k ∧ k < W.heap.size) u xs :=
  R_mono (R_keep (R_bound hu) hk (fun _ h => h.1.2)) (fun _ h => ⟨h.1.1, h.2.2.1⟩)
/-- It is none of the rows made since. -/
theorem R_told (h : d.R e w1 base (fun k => ok k ∧ k < N) u xs) (hbase : ∀ k, v.ownBlock = some k → N ≤ k) : d.R e w1 base (fun k => (ok k ∧ some k ≠ v.ownBlock) ∧ k < N) u xs :=
  R_mono h (fun k hk => ⟨⟨hk.1, fun e => Nat.lt_irrefl _ (Nat.lt_of_lt_of_le hk.2 (hbase k e.symm))⟩, hk.2⟩)
end
end Kd
/-- 'max' and 'min' of two whole numbers. -/
theorem max2_int (k k' : IntKind) (x y : Int) : Builtin.max2 (.int k x) (.int k' y) = pure (.int k (if x < y then y else x)) := by simp only [Builtin.max2, gt_iff_lt]
theorem min2_int (k k' : IntKind) (x y : Int) : Builtin.min2 (.int k x) (.int k' y) = pure (.int k (if y < x then y else x)) := by simp only [Builtin.min2]
theorem max_two (ats : Array TypeId) (ty : TypeId) (a b : Value) : Builtin.max_ ats ty #[a, b] = (Builtin.max2 a b >>= fun s => pure s) := by simp only [Builtin.max_, List.foldlM_cons, List.foldlM_nil]
theorem min_two (ats : Array TypeId) (ty : TypeId) (a b : Value) : Builtin.min_ ats ty #[a, b] = (Builtin.min2 a b >>= fun s => pure s) := by simp only [Builtin.min_, List.foldlM_cons, List.foldlM_nil]
theorem max_three (ats : Array TypeId) (ty : TypeId) (a b c : Value) : Builtin.max_ ats ty #[a, b, c] = (Builtin.max2 a b >>= fun s => Builtin.max2 s c >>= fun s => pure s) := by simp only [Builtin.max_, List.foldlM_cons, List.foldlM_nil]
theorem min_three (ats : Array TypeId) (ty : TypeId) (a b c : Value) : Builtin.min_ ats ty #[a, b, c] = (Builtin.min2 a b >>= fun s => Builtin.min2 s c >>= fun s => pure s) := by simp only [Builtin.min_, List.foldlM_cons, List.foldlM_nil]
theorem max_four (ats : Array TypeId) (ty : TypeId) (a b c d : Value) : Builtin.max_ ats ty #[a, b, c, d] = (Builtin.max2 a b >>= fun s => Builtin.max2 s c >>= fun s => Builtin.max2 s d >>= fun s => pure s) := by simp only [Builtin.max_, List.foldlM_cons, List.foldlM_nil]
theorem min_four (ats : Array TypeId) (ty : TypeId) (a b c d : Value) : Builtin.min_ ats ty #[a, b, c, d] = (Builtin.min2 a b >>= fun s => Builtin.min2 s c >>= fun s => Builtin.min2 s d >>= fun s => pure s) := by simp only [Builtin.min_, List.foldlM_cons, List.foldlM_nil]
end Go.Proofs.YthaiodklfoegiaaW.PrintMore
namespace Go.Proofs.YthaiodklfoegiaaW.PrintWords
open Go.RowKit
section
variable {P : Program} {ops : Array Oper} {rest : List Oper} {o : Oper} {a : Act} {Q : Exit → Act → World → Prop} {W : World}
/-- The operation is a call of this function (a cheap look ahead of a dear step). -/
theorem gate_callee {f : FuncId} {as_ : Array Operand} {ts : Array TypeId} (_ho : o.op = .call { callee := .value (.func f), args := as_, argTypes := ts }) (h : wpList P ops Q (o :: rest) a W) : wpList P ops Q (o :: rest) a W := h
/-- The operation is a builtin over these places. -/
theorem gate_builtin {b : Builtin} {xs : Array Operand} {ts : Array TypeId} (_ho : o.op = .call { callee := .builtin b, args := xs, argTypes := ts }) (h : wpList P ops Q (o :: rest) a W) : wpList P ops Q (o :: rest) a W := h
end
/-- A call's arguments, spelled otherwise. -/
theorem calls_of_args {P : Program} {f : FuncId} {args args' : Array Value} {w : World} {Q : Ending → World → Prop} (h : args = args') (hc : Calls P f args' w Q) : Calls P f args w Q := h ▸ hc
/-- The greater of two whole numbers, as Go's max tells it. -/
def mx (a b : Int) : Int := if a < b then b else a
/-- The smaller of two whole numbers, as Go's min tells it. -/
def mn (a b : Int) : Int := if b < a then b else a
/-- A shift to the left, as Go tells it: a count beyond the width leaves nothing. -/
def shl (k : IntKind) (x y : Int) : Int := k.wrap (x * 2 ^ min y.toNat k.bits)
/-- A shift to the right: a count beyond the width leaves the sign. -/
def shr (k : IntKind) (x y : Int) : Int := x / 2 ^ min y.toNat k.bits
theorem shl_small {k : IntKind} {x y j : Int} (h : shl k x y = j) (hy : y ≤ k.bits) : k.wrap (x * 2 ^ y.toNat) = j := by rw [← h]; unfold shl; rw [Nat.min_eq_left (by omega)]
theorem shr_small {k : IntKind} {x y j : Int} (h : shr k x y = j) (hy : y ≤ k.bits) : x / 2 ^ y.toNat = j := by rw [← h]; unfold shr; rw [Nat.min_eq_left (by omega)]
/-- It says x = x, and that is its use: 'rw [drewN_self w]' fails where the world was not drawn, and the row behind it is skipped. -/
theorem drewN_self (w : World) (n : Nat) : w.drewN n = w.drewN n := rfl
theorem cell_unalloc {W : World} {o : Obj} {a : Addr} {v : Value} (h : (W.alloc o).cell? a = some v) (hlt : a.block < W.heap.size) : W.cell? a = some v := (World.cell?_alloc_lt _ _ _ hlt).symm.trans h
/-- A cell of a block that an event leaves alone. -/
theorem cell_grown {W w1 : World} {row : Option Nat} (hg : W.grownBy w1 row) {a : Addr} {v : Value} (h : W.cell? a = some v) (hne : some a.block ≠ row) : w1.cell? a = some v := by
  have := hg.block a.block (World.block_lt_of_cell? W a h) hne
  simpa [World.cell?, this] using h
namespace Kd
section
variable {α : Type} {d : Kd α} {e base : Nat} {ok : Nat → Prop} {W w1 : World} {v : Value} {xs : List α}
/-- A row of scalars beside a block that is not its own: written. -/
theorem R_grown1 (h : d.R e W base ok v xs) (hE : d.E = []) {row : Option Nat} (hg : W.grownBy w1 row) (hne : row ≠ v.ownBlock) : d.R e w1 base ok v xs :=
  R_mono (R_grown (R_tight hE h) hg (fun _ hk e_ => hne (e_.symm.trans hk))) (fun k hk => h.1 k hk.symm)
/-- The same, told: its block is not that one. -/
theorem R_far1 (h : d.R e W base ok v xs) (hE : d.E = []) {g : Nat} (hne : some g ≠ v.ownBlock) : d.R e W base (fun k => ok k ∧ k ≠ g) v xs :=
  R_mono (R_tight hE h) (fun k hk => ⟨h.1 k hk.symm, fun e_ => hne (by rw [← e_]; exact hk)⟩)
/-- The same, where the row that was written may be none. -/
theorem R_grown2 (h : d.R e W base ok v xs) (hE : d.E = []) {row : Option Nat} (hg : W.grownBy w1 row) (hne : ∀ k, row = some k → some k ≠ v.ownBlock) : d.R e w1 base ok v xs :=
  R_mono (R_grown (R_tight hE h) hg (fun k hk e_ => hne k e_.symm hk)) (fun k hk => h.1 k hk.symm)
end
section
variable {α : Type} {d : Kd α} {e base g n cap : Nat} {ok oki okp : Nat → Prop} {W : World} {xs : List α} {i : Int} {c : List Value}
/-- The place where an element's row comes back: its cells are there, and may be written. -/
theorem H_at (h : H d e W base ok (.slice (some ⟨g, 0, none⟩) n cap) xs i oki c) (h0 : 0 ≤ i) (h1 : i < n) : (∀ j u, c[j]? = some u → W.cell? ⟨g, i.toNat * d.sz + j, none⟩ = some u) ∧ ∀ j, W.frozen? ⟨g, i.toNat * d.sz + j, none⟩ = false := by
  obtain ⟨rows, _, hraw, _, _, hcc, _⟩ := H_raw h h0 h1
  obtain ⟨_, _, _, _, hfr⟩ := R_elem hraw [] i h0 h1
  exact ⟨hcc, hfr⟩
theorem S_seg0 (hH : H d e W base ok (.slice (some ⟨g, 0, none⟩) n cap) xs i oki c) (h0 : 0 ≤ i) (h1 : i < n) {seg : List Value} {j : Nat} (hj : j + seg.length ≤ d.sz)
    {x' : α} (hM : d.M W base okp x' (c.take j ++ seg ++ c.drop (j + seg.length))) (hokp : ∀ k, okp k → oki k) :
    S d e (W.setCells g (i.toNat * d.sz + j) seg) base ok (.slice (some ⟨g, 0, none⟩) n cap) (xs.set i.toNat x') ∧ W.grownBy (W.setCells g (i.toNat * d.sz + j) seg) (some g) :=
  S_seg (okg := fun _ => False) (H_mono hH (fun _ hk => ⟨hk, fun h => h⟩)) h0 h1 hj hM (fun k hk => .inl (hokp k hk)) (fun _ hk => hk.elim)
end
section
variable {α : Type} {d : Kd α} {e base b b' g N : Nat} {ok ok1 : Nat → Prop} {W W2 w1 : World} {u v : Value} {xs ys : List α} {S : Nat → Prop}
theorem Q_tight (hE : d.E = []) (h : d.Q e W base ok v xs) : d.Q e W base (fun k => some k = v.ownBlock) v xs := by
  obtain ⟨h0, inner, ho, hr⟩ := h
  refine ⟨fun k hk => hk.symm, inner, ho, hr.imp_ (fun p c hp => d.M_mono (fun k hk => ?_) (d.M_bound hp))⟩
  obtain ⟨_, _, _, q, hq, _⟩ := hk
  rw [hE] at hq
  cases hq
theorem Q_ok (h : d.Q e W base ok v xs) : ∀ k, v.ownBlock = some k → ok k := h.1
theorem Q_grown1 (h : d.Q e W base ok v xs) (hE : d.E = []) {row : Option Nat} (hg : W.grownBy w1 row) (hne : row ≠ v.ownBlock) : d.Q e w1 base ok v xs :=
  Q_mono (Q_grown (Q_tight hE h) hg (fun _ hk e_ => hne (e_.symm.trans hk))) (fun k hk => h.1 k hk.symm)
theorem Q_grown2 (h : d.Q e W base ok v xs) (hE : d.E = []) {row : Option Nat} (hg : W.grownBy w1 row) (hne : ∀ k, row = some k → some k ≠ v.ownBlock) : d.Q e w1 base ok v xs :=
  Q_mono (Q_grown (Q_tight hE h) hg (fun k hk e_ => hne k e_.symm hk)) (fun k hk => h.1 k hk.symm)
theorem Q_far1 (h : d.Q e W base ok v xs) (hE : d.E = []) {g : Nat} (hne : some g ≠ v.ownBlock) : d.Q e W base (fun k => ok k ∧ k ≠ g) v xs :=
  Q_mono (Q_tight hE h) (fun k hk => ⟨h.1 k hk.symm, fun e_ => hne (by rw [← e_]; exact hk)⟩)
theorem R_tight2 (hE : d.E = []) (h : d.R e W base ok v xs) : d.R e W base (fun k => some k = v.ownBlock ∧ ok k) v xs := R_mono (R_tight hE h) (fun k hk => ⟨hk, h.1 k hk.symm⟩)
theorem R_reok (hE : d.E = []) (h : d.R e W base ok1 v xs) (hok : ∀ k, v.ownBlock = some k → ok k) : d.R e W base ok v xs := R_mono (R_tight hE h) (fun k hk => hok k hk.symm)
theorem own_raise {n size : Nat} {cs : List Value} (h : W.ownsRow b e size v n cs) (hb : ∀ k, v.ownBlock = some k → b' ≤ k) : W.ownsRow b' e size v n cs := by
  obtain ⟨h1, h2⟩ := h
  refine ⟨h1, ?_⟩
  rcases h2 with h2 | ⟨g, cap, cur, rfl, _, r⟩
  · exact .inl h2
  · exact .inr ⟨g, cap, cur, rfl, hb g (by simp [Value.ownBlock]), r⟩
/-- A row whose elements lead to nothing, and whose block is younger than was told. -/
theorem R_raise (hM : ∀ w ok x cs, d.M w b ok x cs → d.M w b' ok x cs) (h : d.R e W b ok v xs) (hb : ∀ k, v.ownBlock = some k → b' ≤ k) : d.R e W b' ok v xs := by
  obtain ⟨h0, inner, ho, hr⟩ := h
  exact ⟨h0, inner, own_raise ho hb, hr.imp_ (fun _ _ hp => hM _ _ _ _ hp)⟩
theorem R_keptB (h : d.R e W base ok v xs) (hk : Kept W W2 S) (hne : ∀ k, ok k → ¬ S k) : d.R e W2 base (fun k => ok k ∧ (¬ S k ∧ k < W.heap.size)) v xs :=
  R_kept (R_mono (R_bound h) (fun k hk => ⟨hk.1, hne k hk.1, hk.2.2.1⟩)) hk (fun _ hk => hk.2.1)
theorem Q_keptB (h : d.Q e W base ok v xs) (hk : Kept W W2 S) (hne : ∀ k, ok k → ¬ S k) : d.Q e W2 base (fun k => ok k ∧ (¬ S k ∧ k < W.heap.size)) v xs :=
  Q_kept (Q_mono (Q_bound h) (fun k hk => ⟨hk.1, hne k hk.1, hk.2.2.1⟩)) hk (fun _ hk => hk.2.1)
theorem S_keptB (h : Kd.S d e W base ok v xs) (hk : Kept W W2 S) (hne : ∀ k, ok k → ¬ S k) : Kd.S d e W2 base (fun k => ok k ∧ (¬ S k ∧ k < W.heap.size)) v xs :=
  S_kept (S_mono (S_bound h) (fun k hk => ⟨hk.1, hne k hk.1, hk.2.2.1⟩)) hk (fun _ hk => hk.2.1)
theorem Q_old (hu : d.Q e W base ok u xs) (hb : Below W.heap.size W w1) : d.Q e w1 base (fun k => ok k ∧ k < W.heap.size) u xs := Q_mono (Q_below (Q_bound hu) hb) (fun _ h => ⟨h.1, h.2.2.1⟩)
theorem Q_oldK (hu : d.Q e W base (fun k => ok k ∧ k ≠ g) u xs) (hk : KeepBut W w1 g none) : d.Q e w1 base (fun k => ok k ∧ k < W.heap.size) u xs := Q_mono (Q_keep (Q_bound hu) hk (fun _ h => h.1.2)) (fun _ h => ⟨h.1.1, h.2.2.1⟩)
theorem Q_apart_nil (h : d.Q e W base ok u xs) : d.Q e W base (fun k => ok k ∧ some k ≠ (Value.slice none 0 0).ownBlock) u xs := Q_mono h (fun k hk => ⟨hk, by simp [Value.ownBlock]⟩)
theorem Q_told (h : d.Q e w1 base (fun k => ok k ∧ k < N) u xs) (hbase : ∀ k, v.ownBlock = some k → N ≤ k) : d.Q e w1 base (fun k => (ok k ∧ some k ≠ v.ownBlock) ∧ k < N) u xs :=
  Q_mono h (fun k hk => ⟨⟨hk.1, fun e => Nat.lt_irrefl _ (Nat.lt_of_lt_of_le hk.2 (hbase k e.symm))⟩, hk.2⟩)
end
end Kd
end Go.Proofs.YthaiodklfoegiaaW.PrintWords

/- Floats as the walks of this seat have them: float64 by its bits; the six comparisons by name. -/
namespace Go.Proofs.YthaiodklfoegiaaF
open Go.RowKit Go.Proofs.YthaiodklfoegiaaW.PrintWords
def kflt : Kd Nat := Kd.scalar (Value.float .f64) (fun _ => rfl)
theorem heap_flt : Kd.Heap kflt := ⟨fun _ h => h⟩
theorem at_flt {w : World} {A : Option Addr} {n : Nat} {xs : List Nat} (h : kflt.C w A n xs) (i : Int) (h0 : 0 ≤ i) (h1 : i < n) : ∃ ad, A = some ad ∧ w.cell? (ad.add i.toNat) = some (.float .f64 (rdOf (0 : Nat) xs i)) :=
  ReadsOf.at_ (Kd.reads_of_C (enc := Value.float .f64) (d := (0 : Nat)) (h1 := fun _ => rfl) h) i h0 h1
def feq (x y : Nat) : Bool := FloatKind.f64.format.order x y == some .eq
def fne (x y : Nat) : Bool := FloatKind.f64.format.order x y != some .eq
def flt_lt (x y : Nat) : Bool := FloatKind.f64.format.order x y == some .lt
def flt_le (x y : Nat) : Bool := FloatKind.f64.format.order x y == some .lt || FloatKind.f64.format.order x y == some .eq
def flt_gt (x y : Nat) : Bool := FloatKind.f64.format.order x y == some .gt
def flt_ge (x y : Nat) : Bool := FloatKind.f64.format.order x y == some .gt || FloatKind.f64.format.order x y == some .eq
theorem run_feq (t : TypeId) (a b : Nat) : binOp .eql t (.float .f64 a) (.float .f64 b) = pure (.bool (feq a b)) := by simp [binOp, Op.floatCmp, feq]
theorem run_fne (t : TypeId) (a b : Nat) : binOp .neq t (.float .f64 a) (.float .f64 b) = pure (.bool (fne a b)) := by simp [binOp, Op.floatCmp, fne]
theorem run_flt_lt (t : TypeId) (a b : Nat) : binOp .lss t (.float .f64 a) (.float .f64 b) = pure (.bool (flt_lt a b)) := by simp [binOp, Op.floatCmp, flt_lt]
theorem run_flt_le (t : TypeId) (a b : Nat) : binOp .leq t (.float .f64 a) (.float .f64 b) = pure (.bool (flt_le a b)) := by simp [binOp, Op.floatCmp, flt_le]
theorem run_flt_gt (t : TypeId) (a b : Nat) : binOp .gtr t (.float .f64 a) (.float .f64 b) = pure (.bool (flt_gt a b)) := by simp [binOp, Op.floatCmp, flt_gt]
theorem run_flt_ge (t : TypeId) (a b : Nat) : binOp .geq t (.float .f64 a) (.float .f64 b) = pure (.bool (flt_ge a b)) := by simp [binOp, Op.floatCmp, flt_ge]
end Go.Proofs.YthaiodklfoegiaaF

namespace Go.Proofs.Ythaiodklfoegiaa.PG
open Go.Proofs.YthaiodklfoegiaaF
attribute [local go_sem high] run_feq run_fne run_flt_lt run_flt_le run_flt_gt run_flt_ge
open Go.RowKit Go.Proofs.YthaiodklfoegiaaW.PrintWords Go.Proofs.YthaiodklfoegiaaW.PrintLast Go.Proofs.YthaiodklfoegiaaW.PrintMore
attribute [local go_sem] max2_int min2_int max_two min_two max_three min_three max_four min_four   -- for this text's walks alone
set_option linter.unusedVariables false
set_option linter.unusedSimpArgs false



def errW : Option Int → Value
  | none => .nilIface
  | some c => .iface 0 (.int .i64 c)
theorem errW_none : errW none = .nilIface := rfl
theorem errW_some (c : Int) : errW (some c) = .iface 0 (.int .i64 c) := rfl

theorem info3 : (Try.prog.info? 3).map (fun i => (i.zero, i.size, i.bytes)) = some (some (.int .i64 0), 1, 8) := by kernel_rfl
theorem info9 : (Try.prog.info? 9).map (fun i => (i.zero, i.size, i.bytes)) = some (some (.string ⟨#[]⟩), 1, 16) := by kernel_rfl
theorem info22 : (Try.prog.info? 22).map (fun i => (i.zero, i.size, i.bytes)) = some (some (.slice none 0 0), 1, 24) := by kernel_rfl
theorem info31 : (Try.prog.info? 31).map (fun i => (i.zero, i.size, i.bytes)) = some (some (.int .u16 0), 1, 2) := by kernel_rfl
theorem info78 : (Try.prog.info? 78).map (fun i => (i.zero, i.size, i.bytes)) = some (some (.agg #[(.bool false), (.string ⟨#[]⟩), (.string ⟨#[]⟩), (.slice none 0 0), (.int .i8 0), (.float .f64 0)]), 6, 80) := by kernel_rfl
theorem info108 : (Try.prog.info? 108).map (fun i => (i.zero, i.size, i.bytes)) = some (some (.agg #[(.string ⟨#[]⟩), (.string ⟨#[]⟩)]), 2, 32) := by kernel_rfl
-- the values' own types
def rd_L3 (xs : List (List Int)) (i : Int) : (List Int) := xs.getD i.toNat ([] : List Int)
theorem at_L3 {w : World} {A : Option Addr} {n : Nat} {xs : List (List Int)} (h : Kd.C (Kd.slice 31 (Kd.int .u16)) w A n xs) (i : Int) (h0 : 0 ≤ i) (h1 : i < n) : ∃ ad A0 c0, A = some ad ∧ w.cell? (ad.add i.toNat) = some (.slice A0 (rd_L3 xs i).length c0) ∧ (rd_L3 xs i).length ≤ c0 ∧ (Kd.int .u16).C w A0 (rd_L3 xs i).length (rd_L3 xs i) := by
  obtain ⟨ad, c, e, _, hK, hc0⟩ := Kd.C_get h ([] : List Int) i h0 h1
  have hc : ∀ j u, c[j]? = some u → w.cell? (ad.add (i.toNat * 1 + j)) = some u := hc0
  obtain ⟨A0, c0, rfl, l0, g0⟩ := hK
  exact ⟨ad, A0, c0, e, by have hq := hc 0 _ rfl; rwa [Nat.mul_one, Nat.add_zero] at hq, l0, g0⟩

/-! #### struct type 108 -/
structure S108 where
  f0 : ByteArray
  f1 : ByteArray
def z108 : S108 := ⟨(⟨#[]⟩ : ByteArray), (⟨#[]⟩ : ByteArray)⟩
def k108 : Kd S108 := Kd.iso (Kd.pair Kd.string Kd.string) (fun x : S108 => (x.f0, x.f1))
theorem k108_heap : Kd.Heap k108 := Kd.heap_iso _ (Kd.heap_pair Kd.heap_string Kd.heap_string)
theorem k108_open {w : World} {x : S108} {cs : List Value} (h : k108.K w x cs) : cs = [.string x.f0, .string x.f1] := by
  obtain ⟨_, _, rfl, rfl, rfl⟩ := h
  exact rfl
theorem k108_openM {w : World} {base : Nat} {ok : Nat → Prop} {x : S108} {cs : List Value} (h : k108.M w base ok x cs) : cs = [.string x.f0, .string x.f1] := by
  obtain ⟨_, _, rfl, rfl, rfl⟩ := h
  exact rfl
theorem k108_mk (w : World) (x : S108)  : k108.K w x [.string x.f0, .string x.f1] := ⟨[.string x.f0], [.string x.f1], rfl, rfl, rfl⟩
theorem k108_mkM (w : World) (base : Nat) (ok : Nat → Prop) (x : S108)  : k108.M w base ok x [.string x.f0, .string x.f1] := ⟨[.string x.f0], [.string x.f1], rfl, rfl, rfl⟩
def rd_T108 (xs : List S108) (i : Int) : S108 := xs.getD i.toNat z108
theorem at_T108 {w : World} {A : Option Addr} {n : Nat} {xs : List S108} (h : Kd.C k108 w A n xs) (i : Int) (h0 : 0 ≤ i) (h1 : i < n) : ∃ ad , A = some ad ∧ w.cell? (ad.add (i.toNat * 2)) = some (.string (rd_T108 xs i).f0) ∧ w.cell? ⟨(ad.add (i.toNat * 2)).block, (ad.add (i.toNat * 2)).off + 1, none⟩ = some (.string (rd_T108 xs i).f1) := by
  obtain ⟨ad, c, e, _, hK, hc0⟩ := Kd.C_get h z108 i h0 h1
  have hc : ∀ j u, c[j]? = some u → w.cell? (ad.add (i.toNat * 2 + j)) = some u := hc0
  obtain rfl := k108_open hK
  exact ⟨ad, e, hc 0 _ rfl, by rw [← add_field _ _ 1 (by omega)]; exact hc 1 _ rfl⟩

/-! #### struct type 54 -/
structure S54 where
  f0 : ByteArray
  f1 : Nat
def z54 : S54 := ⟨(⟨#[]⟩ : ByteArray), (0 : Nat)⟩
def k54 : Kd S54 := Kd.iso (Kd.pair Kd.string kflt) (fun x : S54 => (x.f0, x.f1))
theorem k54_heap : Kd.Heap k54 := Kd.heap_iso _ (Kd.heap_pair Kd.heap_string heap_flt)
theorem k54_open {w : World} {x : S54} {cs : List Value} (h : k54.K w x cs) : cs = [.string x.f0, .float .f64 x.f1] := by
  obtain ⟨_, _, rfl, rfl, rfl⟩ := h
  exact rfl
theorem k54_openM {w : World} {base : Nat} {ok : Nat → Prop} {x : S54} {cs : List Value} (h : k54.M w base ok x cs) : cs = [.string x.f0, .float .f64 x.f1] := by
  obtain ⟨_, _, rfl, rfl, rfl⟩ := h
  exact rfl
theorem k54_mk (w : World) (x : S54)  : k54.K w x [.string x.f0, .float .f64 x.f1] := ⟨[.string x.f0], [.float .f64 x.f1], rfl, rfl, rfl⟩
theorem k54_mkM (w : World) (base : Nat) (ok : Nat → Prop) (x : S54)  : k54.M w base ok x [.string x.f0, .float .f64 x.f1] := ⟨[.string x.f0], [.float .f64 x.f1], rfl, rfl, rfl⟩
def rd_T54 (xs : List S54) (i : Int) : S54 := xs.getD i.toNat z54
theorem at_T54 {w : World} {A : Option Addr} {n : Nat} {xs : List S54} (h : Kd.C k54 w A n xs) (i : Int) (h0 : 0 ≤ i) (h1 : i < n) : ∃ ad , A = some ad ∧ w.cell? (ad.add (i.toNat * 2)) = some (.string (rd_T54 xs i).f0) ∧ w.cell? ⟨(ad.add (i.toNat * 2)).block, (ad.add (i.toNat * 2)).off + 1, none⟩ = some (.float .f64 (rd_T54 xs i).f1) := by
  obtain ⟨ad, c, e, _, hK, hc0⟩ := Kd.C_get h z54 i h0 h1
  have hc : ∀ j u, c[j]? = some u → w.cell? (ad.add (i.toNat * 2 + j)) = some u := hc0
  obtain rfl := k54_open hK
  exact ⟨ad, e, hc 0 _ rfl, by rw [← add_field _ _ 1 (by omega)]; exact hc 1 _ rfl⟩

def rd_L8 (xs : List (List ByteArray)) (i : Int) : (List ByteArray) := xs.getD i.toNat ([] : List ByteArray)
theorem at_L8 {w : World} {A : Option Addr} {n : Nat} {xs : List (List ByteArray)} (h : Kd.C (Kd.slice 9 Kd.string) w A n xs) (i : Int) (h0 : 0 ≤ i) (h1 : i < n) : ∃ ad A0 c0, A = some ad ∧ w.cell? (ad.add i.toNat) = some (.slice A0 (rd_L8 xs i).length c0) ∧ (rd_L8 xs i).length ≤ c0 ∧ Kd.string.C w A0 (rd_L8 xs i).length (rd_L8 xs i) := by
  obtain ⟨ad, c, e, _, hK, hc0⟩ := Kd.C_get h ([] : List ByteArray) i h0 h1
  have hc : ∀ j u, c[j]? = some u → w.cell? (ad.add (i.toNat * 1 + j)) = some u := hc0
  obtain ⟨A0, c0, rfl, l0, g0⟩ := hK
  exact ⟨ad, A0, c0, e, by have hq := hc 0 _ rfl; rwa [Nat.mul_one, Nat.add_zero] at hq, l0, g0⟩

/-! #### struct type 78 -/
structure S78 where
  f0 : Bool
  f1 : ByteArray
  f2 : ByteArray
  f3 : (List ByteArray)
  f4 : Int
  f5 : Nat
def z78 : S78 := ⟨false, (⟨#[]⟩ : ByteArray), (⟨#[]⟩ : ByteArray), ([] : List ByteArray), (0 : Int), (0 : Nat)⟩
def k78 : Kd S78 := Kd.iso (Kd.pair Kd.bool (Kd.pair Kd.string (Kd.pair Kd.string (Kd.pair (Kd.slice 9 Kd.string) (Kd.pair (Kd.int .i8) kflt))))) (fun x : S78 => (x.f0, x.f1, x.f2, x.f3, x.f4, x.f5))
theorem k78_heap : Kd.Heap k78 := Kd.heap_iso _ (Kd.heap_pair Kd.heap_bool (Kd.heap_pair Kd.heap_string (Kd.heap_pair Kd.heap_string (Kd.heap_pair (Kd.heap_slice 9 Kd.heap_string) (Kd.heap_pair (Kd.heap_int .i8) heap_flt)))))
theorem k78_open {w : World} {x : S78} {cs : List Value} (h : k78.K w x cs) : ∃ A3 c3, cs = [.bool x.f0, .string x.f1, .string x.f2, .slice A3 x.f3.length c3, .int .i8 x.f4, .float .f64 x.f5] ∧ x.f3.length ≤ c3 ∧ Kd.string.C w A3 x.f3.length x.f3 := by
  obtain ⟨_, _, rfl, rfl, ⟨_, _, rfl, rfl, ⟨_, _, rfl, rfl, ⟨_, _, rfl, ⟨A3, c3, rfl, l3, g3⟩, ⟨_, _, rfl, rfl, rfl⟩⟩⟩⟩⟩ := h
  exact ⟨A3, c3, rfl, l3, g3⟩
theorem k78_openM {w : World} {base : Nat} {ok : Nat → Prop} {x : S78} {cs : List Value} (h : k78.M w base ok x cs) : ∃ v3, cs = [.bool x.f0, .string x.f1, .string x.f2, v3, .int .i8 x.f4, .float .f64 x.f5] ∧ Kd.string.R 9 w base ok v3 x.f3 := by
  obtain ⟨_, _, rfl, rfl, ⟨_, _, rfl, rfl, ⟨_, _, rfl, rfl, ⟨_, _, rfl, ⟨v3, rfl, g3⟩, ⟨_, _, rfl, rfl, rfl⟩⟩⟩⟩⟩ := h
  exact ⟨v3, rfl, g3⟩
theorem k78_mk (w : World) (x : S78) {A3 : Option Addr} {c3 : Nat} (l3 : x.f3.length ≤ c3) (g3 : Kd.string.C w A3 x.f3.length x.f3) : k78.K w x [.bool x.f0, .string x.f1, .string x.f2, .slice A3 x.f3.length c3, .int .i8 x.f4, .float .f64 x.f5] := ⟨[.bool x.f0], [.string x.f1, .string x.f2, .slice A3 x.f3.length c3, .int .i8 x.f4, .float .f64 x.f5], rfl, rfl, ⟨[.string x.f1], [.string x.f2, .slice A3 x.f3.length c3, .int .i8 x.f4, .float .f64 x.f5], rfl, rfl, ⟨[.string x.f2], [.slice A3 x.f3.length c3, .int .i8 x.f4, .float .f64 x.f5], rfl, rfl, ⟨[.slice A3 x.f3.length c3], [.int .i8 x.f4, .float .f64 x.f5], rfl, ⟨A3, c3, rfl, l3, g3⟩, ⟨[.int .i8 x.f4], [.float .f64 x.f5], rfl, rfl, rfl⟩⟩⟩⟩⟩
theorem k78_mkM (w : World) (base : Nat) (ok : Nat → Prop) (x : S78) {v3 : Value} (g3 : Kd.string.R 9 w base ok v3 x.f3) : k78.M w base ok x [.bool x.f0, .string x.f1, .string x.f2, v3, .int .i8 x.f4, .float .f64 x.f5] := ⟨[.bool x.f0], [.string x.f1, .string x.f2, v3, .int .i8 x.f4, .float .f64 x.f5], rfl, rfl, ⟨[.string x.f1], [.string x.f2, v3, .int .i8 x.f4, .float .f64 x.f5], rfl, rfl, ⟨[.string x.f2], [v3, .int .i8 x.f4, .float .f64 x.f5], rfl, rfl, ⟨[v3], [.int .i8 x.f4, .float .f64 x.f5], rfl, ⟨v3, rfl, g3⟩, ⟨[.int .i8 x.f4], [.float .f64 x.f5], rfl, rfl, rfl⟩⟩⟩⟩⟩
def rd_T78 (xs : List S78) (i : Int) : S78 := xs.getD i.toNat z78
theorem at_T78 {w : World} {A : Option Addr} {n : Nat} {xs : List S78} (h : Kd.C k78 w A n xs) (i : Int) (h0 : 0 ≤ i) (h1 : i < n) : ∃ ad A3 c3, A = some ad ∧ w.cell? (ad.add (i.toNat * 6)) = some (.bool (rd_T78 xs i).f0) ∧ w.cell? ⟨(ad.add (i.toNat * 6)).block, (ad.add (i.toNat * 6)).off + 1, none⟩ = some (.string (rd_T78 xs i).f1) ∧ w.cell? ⟨(ad.add (i.toNat * 6)).block, (ad.add (i.toNat * 6)).off + 2, none⟩ = some (.string (rd_T78 xs i).f2) ∧ w.cell? ⟨(ad.add (i.toNat * 6)).block, (ad.add (i.toNat * 6)).off + 3, none⟩ = some (.slice A3 (rd_T78 xs i).f3.length c3) ∧ w.cell? ⟨(ad.add (i.toNat * 6)).block, (ad.add (i.toNat * 6)).off + 4, none⟩ = some (.int .i8 (rd_T78 xs i).f4) ∧ w.cell? ⟨(ad.add (i.toNat * 6)).block, (ad.add (i.toNat * 6)).off + 5, none⟩ = some (.float .f64 (rd_T78 xs i).f5) ∧ (rd_T78 xs i).f3.length ≤ c3 ∧ Kd.string.C w A3 (rd_T78 xs i).f3.length (rd_T78 xs i).f3 := by
  obtain ⟨ad, c, e, _, hK, hc0⟩ := Kd.C_get h z78 i h0 h1
  have hc : ∀ j u, c[j]? = some u → w.cell? (ad.add (i.toNat * 6 + j)) = some u := hc0
  obtain ⟨A3, c3, rfl, l3, g3⟩ := k78_open hK
  exact ⟨ad, A3, c3, e, hc 0 _ rfl, by rw [← add_field _ _ 1 (by omega)]; exact hc 1 _ rfl, by rw [← add_field _ _ 2 (by omega)]; exact hc 2 _ rfl, by rw [← add_field _ _ 3 (by omega)]; exact hc 3 _ rfl, by rw [← add_field _ _ 4 (by omega)]; exact hc 4 _ rfl, by rw [← add_field _ _ 5 (by omega)]; exact hc 5 _ rfl, l3, g3⟩

/-! #### struct type 28 -/
structure S28 where
  f0 : ByteArray
  f1 : ByteArray
  f2 : ByteArray
def z28 : S28 := ⟨(⟨#[]⟩ : ByteArray), (⟨#[]⟩ : ByteArray), (⟨#[]⟩ : ByteArray)⟩
def k28 : Kd S28 := Kd.iso (Kd.pair Kd.string (Kd.pair Kd.string Kd.string)) (fun x : S28 => (x.f0, x.f1, x.f2))
theorem k28_heap : Kd.Heap k28 := Kd.heap_iso _ (Kd.heap_pair Kd.heap_string (Kd.heap_pair Kd.heap_string Kd.heap_string))
theorem k28_open {w : World} {x : S28} {cs : List Value} (h : k28.K w x cs) : cs = [.string x.f0, .string x.f1, .string x.f2] := by
  obtain ⟨_, _, rfl, rfl, ⟨_, _, rfl, rfl, rfl⟩⟩ := h
  exact rfl
theorem k28_openM {w : World} {base : Nat} {ok : Nat → Prop} {x : S28} {cs : List Value} (h : k28.M w base ok x cs) : cs = [.string x.f0, .string x.f1, .string x.f2] := by
  obtain ⟨_, _, rfl, rfl, ⟨_, _, rfl, rfl, rfl⟩⟩ := h
  exact rfl
theorem k28_mk (w : World) (x : S28)  : k28.K w x [.string x.f0, .string x.f1, .string x.f2] := ⟨[.string x.f0], [.string x.f1, .string x.f2], rfl, rfl, ⟨[.string x.f1], [.string x.f2], rfl, rfl, rfl⟩⟩
theorem k28_mkM (w : World) (base : Nat) (ok : Nat → Prop) (x : S28)  : k28.M w base ok x [.string x.f0, .string x.f1, .string x.f2] := ⟨[.string x.f0], [.string x.f1, .string x.f2], rfl, rfl, ⟨[.string x.f1], [.string x.f2], rfl, rfl, rfl⟩⟩
def rd_T28 (xs : List S28) (i : Int) : S28 := xs.getD i.toNat z28
theorem at_T28 {w : World} {A : Option Addr} {n : Nat} {xs : List S28} (h : Kd.C k28 w A n xs) (i : Int) (h0 : 0 ≤ i) (h1 : i < n) : ∃ ad , A = some ad ∧ w.cell? (ad.add (i.toNat * 3)) = some (.string (rd_T28 xs i).f0) ∧ w.cell? ⟨(ad.add (i.toNat * 3)).block, (ad.add (i.toNat * 3)).off + 1, none⟩ = some (.string (rd_T28 xs i).f1) ∧ w.cell? ⟨(ad.add (i.toNat * 3)).block, (ad.add (i.toNat * 3)).off + 2, none⟩ = some (.string (rd_T28 xs i).f2) := by
  obtain ⟨ad, c, e, _, hK, hc0⟩ := Kd.C_get h z28 i h0 h1
  have hc : ∀ j u, c[j]? = some u → w.cell? (ad.add (i.toNat * 3 + j)) = some u := hc0
  obtain rfl := k28_open hK
  exact ⟨ad, e, hc 0 _ rfl, by rw [← add_field _ _ 1 (by omega)]; exact hc 1 _ rfl, by rw [← add_field _ _ 2 (by omega)]; exact hc 2 _ rfl⟩

end Go.Proofs.Ythaiodklfoegiaa.PG

/- reach.lines: the names that each name leads to. -/
namespace Go.Proofs.Ythaiodklfoegiaa.MLines
open Go.RowKit Go.Proofs.YthaiodklfoegiaaW.PrintWords Go.Proofs.YthaiodklfoegiaaW.PrintLast Go.Proofs.Ythaiodklfoegiaa.BMap Go.Proofs.Ythaiodklfoegiaa.BRow Go.Proofs.Ythaiodklfoegiaa.GDiffer Go.Maps
open Go.Proofs.Ythaiodklfoegiaa Go.Proofs.Ythaiodklfoegiaa.PG

theorem str_law : WideMaps.KeyLaw Try.prog 9 := WideMaps.string_law Try.underlying9
abbrev okS (s : ByteArray) : Prop := s.size ≤ 140737488351232
theorem str_key : KeyOk Try.prog 9 Value.string okS := ⟨Keyed.of_law str_law, fun s h => ⟨_, WideMaps.keyOf_string_mk Try.underlying9 (Nat.le_trans h (by decide))⟩, fun a b h => by simpa using h⟩

/-- Where a name leads to, in the pairs' order. -/
def targets (ps : List S108) (s : ByteArray) : List ByteArray := (ps.filter (fun q => decide (q.f0 = s))).map (·.f1)
theorem targets_snoc (ps : List S108) (q : S108) (s : ByteArray) : targets (ps ++ [q]) s = targets ps s ++ if q.f0 = s then [q.f1] else [] := by
  unfold targets
  rw [List.filter_append, List.map_append]
  by_cases h : q.f0 = s <;> simp [h]
theorem targets_length (ps : List S108) (s : ByteArray) : (targets ps s).length ≤ ps.length := by
  unfold targets
  rw [List.length_map]
  exact List.length_filter_le _ _

/-- Block b of wr is the map of the first pairs. -/
structure Lines (w wr : World) (b : Nat) (f : ByteArray → Option Value) (n : Nat) (ps : List S108) : Prop where
  map : MapF Value.string id okS wr b f n
  ge : w.heap.size ≤ b
  no : ∀ s, f s = none → targets ps s = []
  vals : ∀ s v, f s = some v → Kd.R Kd.string 9 wr w.heap.size (fun k => k ≠ b) v (targets ps s)
  apart : ∀ s s' v v' k, s ≠ s' → f s = some v → f s' = some v' → v.ownBlock = some k → v'.ownBlock ≠ some k
  below : Below w.heap.size w wr

theorem z22 (w : World) : (zeroValue 22).run Try.prog w = .ok (.slice none 0 0) w := by kernel_rfl

theorem Lines.move {w wr w1 : World} {b : Nat} {f : ByteArray → Option Value} {n : Nat} {ps : List S108} (h : Lines w wr b f n ps) (hb : Below wr.heap.size wr w1) : Lines w w1 b f n ps :=
  ⟨h.map.below hb, h.ge, h.no, fun s v hv => Kd.R_below (h.vals s v hv) hb, h.apart, below_then h.below h.below.size hb⟩

theorem R_str {w : World} {base : Nat} {ok ok' : Nat → Prop} {v : Value} {xs : List ByteArray} (h : Kd.R Kd.string 9 w base ok v xs) (h' : ∀ k, v.ownBlock = some k → ok' k) : Kd.R Kd.string 9 w base ok' v xs := ⟨h', h.2⟩
theorem R_lt {w : World} {base : Nat} {ok : Nat → Prop} {v : Value} {xs : List ByteArray} (h : Kd.R Kd.string 9 w base ok v xs) (k : Nat) (hk : v.ownBlock = some k) : k < w.heap.size := (Kd.R_bound h).1 k hk |>.2.2.1
/-- One more pair. -/
theorem Lines.put {w W w1 w4 : World} {b : Nat} {f : ByteArray → Option Value} {n n' : Nat} {ps : List S108} {q : S108} {v0 v1 : Value} (h : Lines w W b f n ps) (hv0 : v0 = (f q.f0).getD (.slice none 0 0))
    (hR1 : Kd.R Kd.string 9 w1 w.heap.size (fun k => k ≠ b) v1 (targets ps q.f0 ++ [q.f1])) (hB1 : Below w.heap.size w w1) (hg1 : W.grownBy w1 v0.ownBlock) (hat1 : v1.ownBlock = v0.ownBlock ∨ ∃ b, v1.ownBlock = some b ∧ W.heap.size ≤ b)
    (hM4 : MapF Value.string id okS w4 b (upd f q.f0 v1) n') (hg4 : w1.grownBy w4 (some b)) : Lines w w4 b (upd f q.f0 v1) n' (ps ++ [q]) where
  map := hM4
  ge := h.ge
  no := fun s hs => by
    by_cases e : s = q.f0
    · subst e; rw [upd_same] at hs; cases hs
    · rw [upd_other _ _ e] at hs
      rw [targets_snoc, if_neg (fun k => e k.symm), List.append_nil, h.no s hs]
  vals := fun s v hs => by
    by_cases e : s = q.f0
    · subst e
      rw [upd_same] at hs
      obtain rfl := Option.some.inj hs
      rw [targets_snoc, if_pos rfl]
      exact Kd.R_grown hR1 hg4 (fun k hk => fun e => hk (Option.some.inj e))
    · rw [upd_other _ _ e] at hs
      rw [targets_snoc, if_neg (fun k => e k.symm), List.append_nil]
      have h1 := h.vals s v hs
      have h2 : Kd.R Kd.string 9 W w.heap.size (fun k => k ≠ b ∧ some k ≠ v0.ownBlock) v (targets ps s) := R_str h1 fun k hk => ⟨h1.1 k hk, by
        subst hv0
        cases hf : f q.f0 with
        | none => simp [Value.ownBlock]
        | some v' =>
          intro hh
          exact h.apart s q.f0 v v' k e hs hf hk hh.symm⟩
      have h3 := Kd.R_grown h2 hg1 (fun k hk => hk.2)
      exact Kd.R_mono (Kd.R_grown h3 hg4 (fun k hk => fun e => hk.1 (Option.some.inj e))) (fun k hk => hk.1)
  apart := fun s s' v v' k hne hs hs' hk hk' => by
    have hfar : ∀ t u, t ≠ q.f0 → f t = some u → u.ownBlock = some k → v1.ownBlock = some k → False := by
      intro t u ht hu huk h1k
      rcases hat1 with e | ⟨g, e, hge⟩
      · subst hv0
        cases hf : f q.f0 with
        | none => rw [hf] at e; rw [e] at h1k; simp [Value.ownBlock] at h1k
        | some u' => rw [hf] at e; rw [e] at h1k; exact h.apart t q.f0 u u' k ht hu hf huk h1k
      · rw [e] at h1k
        have := R_lt (h.vals t u hu) k huk
        have := Option.some.inj h1k
        omega
    by_cases e : s = q.f0
    · by_cases e' : s' = q.f0
      · exact hne (e.trans e'.symm)
      · rw [e, upd_same] at hs
        rw [upd_other _ _ e'] at hs'
        obtain rfl := Option.some.inj hs
        exact hfar s' v' e' hs' hk' hk
    · rw [upd_other _ _ e] at hs
      by_cases e' : s' = q.f0
      · rw [e', upd_same] at hs'
        obtain rfl := Option.some.inj hs'
        exact hfar s v e hs hk hk'
      · rw [upd_other _ _ e'] at hs'
        exact h.apart s s' v v' k hne hs hs' hk hk'
  below := hB1.grown hg4 (Nat.le_trans h.below.size (hg1.size)) (fun k hk => by cases hk; exact h.ge)

set_option maxHeartbeats 2000000 in
set_option maxRecDepth 100000 in
theorem lines_calls (A : Option Addr) (c : Nat) (ps : List S108) (w : World) (hC : Kd.C k108 w A ps.length ps) (hc : ps.length ≤ c) (hb : ps.length ≤ 8796093021952) (hok : ∀ q ∈ ps, okS q.f0) :
    Calls Try.prog 88 #[.slice A ps.length c] w fun e w' => ∃ b f n, e = .returned (.map (some b)) ∧ Lines w w' b f n ps := by
  have hmax : ps.length ≤ 9223372036854775807 := hC.2.1
  have HC := Aside0.mk hC
  have HCC := Aside0.mk hc
  have HOK := Aside0.mk hok
  have HBB := Aside0.mk hb
  clear hC hc hok hb
  have hmm := @run_makeMap Try.prog
  go_enter Try.func88, Try.ntmps88
  go_wp2
  clear hmm
  go_loopw [9] (fun v wr => ∃ (k : Nat) (f : ByteArray → Option Value) (n : Nat), k ≤ ps.length ∧ v = .int .i64 k ∧ Aside0 (Lines w wr w.heap.size f n (ps.take k))) (fun v _ => ps.length - (intOf v).toNat)
  case atStart => exact ⟨0, _, _, Nat.zero_le _, rfl, ⟨⟨MapF.made w, Nat.le_refl _, fun s _ => by simp [targets], fun s v h => by simp at h, fun s s' v v' k _ h => by simp at h, (Below.refl _ _).alloc (Nat.le_refl _) _⟩⟩⟩
  case round =>
    obtain ⟨k, f, n, hk, rfl, HR⟩ := hrel
    by_cases hlt : k < ps.length
    · obtain ⟨ad, e0, hx0, hx1⟩ := at_T108 HC.out (k : Int) (by omega) (by omega)
      cases e0
      have hget : rd_T108 ps (k : Int) = ps[k] := by simp [rd_T108, hlt]
      simp only [hget, Int.toNat_natCast] at hx0 hx1
      have hq := HOK.out ps[k] (List.getElem_mem hlt)
      obtain ⟨q, hqq⟩ : ∃ q, q = ps[k] := ⟨_, rfl⟩
      rw [← hqq] at hx0 hx1 hq
      have HQ := Aside0.mk hq
      have HQQ := Aside0.mk hqq
      clear hq hqq hget
      replace hx0 := (HR.out.below.cell (World.block_lt_of_cell? w _ hx0)).trans hx0
      replace hx1 := (HR.out.below.cell (World.block_lt_of_cell? w _ hx1)).trans hx1
      have c0' : (k : Int) < ps.length := by omega
      go_upto_region 5 with fail
      obtain ⟨W2, hW2⟩ : ∃ W2, W2 = (wr.alloc (.cells #[.string q.f0, .string q.f1] 108)).drew := ⟨_, rfl⟩
      have HW := (HR.out.move (below_drew (below_alloc (Below.refl _ _) (.cells #[.string q.f0, .string q.f1] 108))))
      have hc0 : W2.cell? ⟨wr.heap.size, 0, none⟩ = some (.string q.f0) := by subst hW2; go_simp
      have hc1 : W2.cell? ⟨wr.heap.size, 1, none⟩ = some (.string q.f1) := by subst hW2; go_simp
      have hgt : w.heap.size < W2.heap.size := by subst hW2; have := HR.out.map.lt; simp; omega
      have hgt2 : wr.heap.size < W2.heap.size := by subst hW2; simp
      rw [← hW2] at HW
      obtain ⟨v0, hv0⟩ : ∃ v0, v0 = (f q.f0).getD (.slice none 0 0) := ⟨_, rfl⟩
      have hlk : (Instr.lookup 125 (.map (some w.heap.size)) (.string q.f0) false).run Try.prog W2 = .ok v0 W2 := by
        have := HW.map.lookup str_key Try.underlying125 (z22 W2) HQ.out false
        subst hv0
        simpa using this
      have hR0 : Kd.R Kd.string 9 W2 w.heap.size (fun k => k ≠ w.heap.size) v0 (targets (ps.take k) q.f0) := by
        subst hv0
        cases hf : f q.f0 with
        | none => rw [HW.no _ hf]; exact Kd.R_nil _ _ _ _ _
        | some v => exact HW.vals _ _ hf
      have hne0 : some w.heap.size ≠ v0.ownBlock := fun e => hR0.1 _ e.symm rfl
      have hne2 : some wr.heap.size ≠ v0.ownBlock := by
        subst hv0
        cases hf : f q.f0 with
        | none => simp [Value.ownBlock]
        | some v =>
          intro e
          exact Nat.lt_irrefl _ (R_lt (HR.out.vals _ _ hf) _ e.symm)
      clear HR
      have hfresh : ∀ k, W2.heap.size ≤ k → k ≠ w.heap.size := fun k hk => by omega
      have hlim : ((targets (ps.take k) q.f0).length + 1) * 16 ≤ 140737488355328 := by
        have h1 := targets_length (ps.take k) q.f0
        have h2 := HBB.out
        rw [List.length_take] at h1
        omega
      refine start_ (n := 12) (S := fun w' => w'.cell? ⟨wr.heap.size, 0, none⟩ = some (.string q.f0) ∧ w'.cell? ⟨wr.heap.size, 1, none⟩ = some (.string q.f1) ∧ (Instr.lookup 125 (.map (some w.heap.size)) (.string q.f0) false).run Try.prog w' = .ok v0 w') (ds := [11]) #[false, false, false, false, false, false, false, false, false, false, false, false] (by kernel_rfl) rfl rfl (by rw [← hW2]; exact ⟨hc0, hc1, hlk⟩) (fun hHeld => ?_)
      rw [← hW2] at hHeld ⊢
      clear hW2
      refine pure_ (i := 0) (N := some 13) (v := ?_) (a' := ?_) #[true, false, false, false, false, false, false, false, false, false, false, false] rfl rfl (by kernel_rfl) (fun _ _ _ h => h) (Or.inl ⟨by rfl, ?_⟩) ?_ ?_
      rotate_left
      · intro w'
        go_simp
        with_reducible rfl
      rotate_left
      · simp only [Act.put, List.setIfInBounds_toArray, List.set_cons_zero, List.set_cons_succ]
        rfl
      refine pure_ (i := 1) (N := some 14) (v := ?_) (a' := ?_) #[true, true, false, false, false, false, false, false, false, false, false, false] rfl rfl (by kernel_rfl) (fun _ _ _ h => h) (Or.inl ⟨by rfl, ?_⟩) ?_ ?_
      rotate_left
      · intro w'
        go_simp
        with_reducible rfl
      rotate_left
      · simp only [Act.put, List.setIfInBounds_toArray, List.set_cons_zero, List.set_cons_succ]
        rfl
      refine take_ (i := 2) (N := some 15) (v := ?_) (a' := ?_) #[true, true, true, false, false, false, false, false, false, false, false, false] rfl rfl (by kernel_rfl) (fun _ _ _ h => h) (Or.inl ⟨by rfl, ?_⟩) hHeld ?_ ?_
      rotate_left
      · rintro w' ⟨s0, s1, s2⟩
        go_simp
        with_reducible rfl
      rotate_left
      · simp only [Act.put, List.setIfInBounds_toArray, List.set_cons_zero, List.set_cons_succ]
        rfl
      refine pure_ (i := 3) (N := some 16) (v := ?_) (a' := ?_) #[true, true, true, true, false, false, false, false, false, false, false, false] rfl rfl (by kernel_rfl) (fun _ _ _ h => h) (Or.inl ⟨by rfl, ?_⟩) ?_ ?_
      rotate_left
      · intro w'
        go_simp
        with_reducible rfl
      rotate_left
      · simp only [Act.put, List.setIfInBounds_toArray, List.set_cons_zero, List.set_cons_succ]
        rfl
      refine pure_ (i := 4) (N := some 17) (v := ?_) (a' := ?_) #[true, true, true, true, true, false, false, false, false, false, false, false] rfl rfl (by kernel_rfl) (fun _ _ _ h => h) (Or.inl ⟨by rfl, ?_⟩) ?_ ?_
      rotate_left
      · intro w'
        go_simp
        with_reducible rfl
      rotate_left
      · simp only [Act.put, List.setIfInBounds_toArray, List.set_cons_zero, List.set_cons_succ]
        rfl
      refine take_ (i := 5) (N := some 18) (v := ?_) (a' := ?_) #[true, true, true, true, true, true, false, false, false, false, false, false] rfl rfl (by kernel_rfl) (fun _ _ _ h => h) (Or.inl ⟨by rfl, ?_⟩) hHeld ?_ ?_
      rotate_left
      · rintro w' ⟨s0, s1, s2⟩
        go_simp
        with_reducible rfl
      rotate_left
      · simp only [Act.put, List.setIfInBounds_toArray, List.set_cons_zero, List.set_cons_succ]
        rfl
      refine take_ (i := 6) (N := some 19) (v := ?_) (a' := ?_) #[true, true, true, true, true, true, true, false, false, false, false, false] rfl rfl (by kernel_rfl) (fun _ _ _ h => h) (Or.inl ⟨by rfl, ?_⟩) hHeld ?_ ?_
      rotate_left
      · rintro w' ⟨s0, s1, s2⟩
        simp [execOp, Act.eval, s2]
        rfl
      rotate_left
      · simp only [Act.put, List.setIfInBounds_toArray, List.set_cons_zero, List.set_cons_succ]
        rfl
      refine pure_ (i := 7) (N := some 20) (v := ?_) (a' := ?_) #[true, true, true, true, true, true, true, true, false, false, false, false] rfl rfl (by kernel_rfl) (fun _ _ _ h => h) (Or.inl ⟨by rfl, ?_⟩) ?_ ?_
      rotate_left
      · intro w'
        go_simp
        with_reducible rfl
      rotate_left
      · simp only [Act.put, List.setIfInBounds_toArray, List.set_cons_zero, List.set_cons_succ]
        rfl
      refine take_ (i := 8) (N := some 21) (v := ?_) (a' := ?_) #[true, true, true, true, true, true, true, true, true, false, false, false] rfl rfl (by kernel_rfl) (fun _ _ _ h => h) (Or.inl ⟨by rfl, ?_⟩) hHeld ?_ ?_
      rotate_left
      · rintro w' ⟨s0, s1, s2⟩
        go_simp
        with_reducible rfl
      rotate_left
      · simp only [Act.put, List.setIfInBounds_toArray, List.set_cons_zero, List.set_cons_succ]
        rfl
      refine one_ (i := 9) (N := some 22) #[true, true, true, true, true, true, true, true, true, true, false, false] rfl rfl (by kernel_rfl) (by decide) (fun K hK => ?_)
      refine GDiffer.step_run rfl rfl (w' := W2.alloc (.cells #[.string q.f1] 9)) (v := .slice (some ⟨W2.heap.size, 0, none⟩) 1 1) (by go_simp) ?_
      refine hK.out _ _ ⟨?_, ?_, ?_⟩ (fun hHeld => ?_)
      · exact pw_cell_below (below_alloc (Below.refl _ _) _) hc0
      · exact pw_cell_below (below_alloc (Below.refl _ _) _) hc1
      · have := (HW.map.alloc (.cells #[.string q.f1] 9)).lookup str_key Try.underlying125 (z22 _) HQ.out false
        subst hv0
        simpa using this
      clear hK K
      refine norm_ (a' := ?_) ?_ ?_
      rotate_left
      · show Act.put _ (some 22) _ = _
        simp only [Act.put, List.setIfInBounds_toArray, List.set_cons_zero, List.set_cons_succ]
        rfl
      refine one_ (i := 10) (N := some 23) #[true, true, true, true, true, true, true, true, true, true, true, false] rfl rfl (by kernel_rfl) (by decide) (fun K hK => ?_)
      refine Kd.R_append_step Kd.string (w0 := w) w.heap.size rfl (.tmp 19) (.tmp 22) 22 9 (.string ⟨#[]⟩) 16 rfl Try.underlying22 info9 rfl (by decide) (by decide) v0 (targets (ps.take k) q.f0) q.f1 [.string q.f1] (fun k => k ≠ w.heap.size) (fun _ => False) rfl rfl rfl (fun _ hk => hk.elim) hfresh hR0 HW.below (HW.below.size) hlim (fun v1 w1 hR1 hB1 hg1 hat1 => ?_)
      refine hK.out _ _ ⟨?_, ?_, ?_⟩ (fun hHeld => ?_)
      · exact (World.cell?_of_block (w := W2) (hg1.block _ hgt2 hne2)).trans hc0
      · exact (World.cell?_of_block (w := W2) (hg1.block _ hgt2 hne2)).trans hc1
      · have := (HW.map.grown hg1 hne0).lookup str_key Try.underlying125 (z22 _) HQ.out false
        subst hv0
        simpa using this
      clear hK K
      refine norm_ (a' := ?_) ?_ ?_
      rotate_left
      · show Act.put _ (some 23) _ = _
        simp only [Act.put, List.setIfInBounds_toArray, List.set_cons_zero, List.set_cons_succ]
        rfl
      refine last_ (i := 11) (N := none) #[true, true, true, true, true, true, true, true, true, true, true, true] rfl rfl (by kernel_rfl) (by decide) (fun K hK => ?_)
      obtain ⟨w4, hrun4, hM4, hg4⟩ := (HW.map.grown hg1 hne0).update str_key Try.underlying125 HQ.out v1
      refine GDiffer.step_skip (w' := w4) rfl rfl (by have hrun4' : (Instr.mapUpdate 125 (.map (some w.heap.size)) (.string q.f0) v1).run Try.prog w1 = .ok () w4 := hrun4; simp [execOp, Act.eval, hrun4']) ?_
      refine hK.out _ _ ?_
      clear hK K
      refine done_ (by kernel_rfl) ?_
      have HN := Aside0.mk (HW.put hv0 hR1 hB1 hg1 hat1 hM4 hg4)
      clear hM4 hg4 hrun4 hR1 hB1 hg1 hat1 HW
      go_wp2
      go_roundw
      case rel =>
        have HN2 := HN.out
        rw [HQQ.out, ← List.take_succ_eq_append_getElem hlt] at HN2
        exact ⟨k + 1, _, _, by omega, by go_num, ⟨HN2⟩⟩
      case measure => simp [intOf]; omega
    · have hkk : k = ps.length := by omega
      subst hkk
      go_wp2
      go_ret
      have hfin := HR.out
      rw [List.take_length] at hfin
      exact ⟨_, _, _, rfl, hfin⟩
end Go.Proofs.Ythaiodklfoegiaa.MLines

/- reach.Close's put: the closure. -/
namespace Go.Proofs.Ythaiodklfoegiaa.MPut
open Go.RowKit Go.Proofs.YthaiodklfoegiaaW.PrintWords Go.Proofs.YthaiodklfoegiaaW.PrintLast Go.Proofs.YthaiodklfoegiaaW.PrintMore Go.Proofs.Ythaiodklfoegiaa.BMap Go.Proofs.Ythaiodklfoegiaa.BRow Go.Proofs.Ythaiodklfoegiaa.MLines Go.Maps
open Go.Proofs.Ythaiodklfoegiaa Go.Proofs.Ythaiodklfoegiaa.PG

open Classical in
/-- One thing more, if it is not there. -/
noncomputable def put1 (L : List ByteArray) (x : ByteArray) : List ByteArray := if x ∈ L then L else L ++ [x]
noncomputable def putAll (L xs : List ByteArray) : List ByteArray := xs.foldl put1 L
theorem putAll_snoc (L xs : List ByteArray) (x : ByteArray) : putAll L (xs ++ [x]) = put1 (putAll L xs) x := by simp [putAll]
theorem mem_put1 (L : List ByteArray) (x s : ByteArray) : s ∈ put1 L x ↔ s ∈ L ∨ s = x := by
  unfold put1
  split
  · rename_i h; constructor
    · exact .inl
    · rintro (h' | rfl)
      · exact h'
      · exact h
  · simp
theorem mem_putAll (L : List ByteArray) (s : ByteArray) : ∀ xs, s ∈ putAll L xs ↔ s ∈ L ∨ s ∈ xs := by
  intro xs
  induction xs generalizing L with
  | nil => simp [putAll]
  | cons x r ih =>
    have := ih (put1 L x)
    rw [show putAll L (x :: r) = putAll (put1 L x) r from rfl, this, mem_put1, List.mem_cons]
    constructor
    · rintro ((h | h) | h)
      · exact .inl h
      · exact .inr (.inl h)
      · exact .inr (.inr h)
    · rintro (h | h | h)
      · exact .inl (.inl h)
      · exact .inl (.inr h)
      · exact .inr h
theorem nodup_put1 {L : List ByteArray} (h : L.Nodup) (x : ByteArray) : (put1 L x).Nodup := by
  unfold put1
  split
  · exact h
  · rename_i hx
    rw [List.nodup_append]
    refine ⟨h, by simp, fun a ha b hb e => ?_⟩
    simp at hb
    exact hx (hb ▸ e ▸ ha)
theorem nodup_putAll : ∀ (xs : List ByteArray) {L : List ByteArray}, L.Nodup → (putAll L xs).Nodup
  | [], _, h => h
  | x :: r, _, h => nodup_putAll r (nodup_put1 h x)
theorem put1_prefix (L : List ByteArray) (x : ByteArray) : ∃ M, put1 L x = L ++ M := by
  unfold put1
  split
  · exact ⟨[], by simp⟩
  · exact ⟨[x], rfl⟩
theorem putAll_prefix : ∀ (xs L : List ByteArray), ∃ M, putAll L xs = L ++ M
  | [], L => ⟨[], by simp [putAll]⟩
  | x :: r, L => by
    obtain ⟨M, hM⟩ := put1_prefix L x
    obtain ⟨M', hM'⟩ := putAll_prefix r (put1 L x)
    exact ⟨M ++ M', by show putAll (put1 L x) r = _; rw [hM', hM, List.append_assoc]⟩
/-- As many different ones as there are at most. -/
theorem nodup_le : ∀ (l U : List ByteArray), l.Nodup → (∀ s ∈ l, s ∈ U) → l.length ≤ U.length
  | [], _, _, _ => Nat.zero_le _
  | x :: r, U, h, hs => by
    have hx : x ∈ U := hs x (by simp)
    obtain ⟨A, B, rfl⟩ := List.append_of_mem hx
    have h1 := (List.nodup_cons.1 h)
    have := nodup_le r (A ++ B) h1.2 (fun s hsr => by
      have := hs s (by simp [hsr])
      simp only [List.mem_append, List.mem_cons] at this ⊢
      rcases this with h2 | rfl | h2
      · exact .inl h2
      · exact absurd hsr h1.1
      · exact .inr h2)
    simp at this ⊢
    omega

abbrev unitV : Unit → Value := fun _ => .agg #[]
/-- The variables of a Close that runs: what has been seen (a map in a variable), the list (a row in a variable). -/
structure Seen (w wr : World) (bs bm bl : Nat) (f : ByteArray → Option Unit) (n : Nat) (v : Value) (L : List ByteArray) : Prop where
  svar : wr.heap[bs]? = some (.cells #[.map (some bm)] 93 (0, 0))
  map : MapF Value.string unitV okS wr bm f n
  lvar : wr.heap[bl]? = some (.cells #[v] 22 (0, 0))
  row : Kd.R Kd.string 9 wr w.heap.size (fun k => k ≠ bs ∧ k ≠ bm ∧ k ≠ bl) v L
  has : ∀ s, (f s).isSome = true ↔ s ∈ L
  gs : w.heap.size ≤ bs
  gm : w.heap.size ≤ bm
  gl : w.heap.size ≤ bl
  sm : bs ≠ bm
  sl : bs ≠ bl
  ml : bm ≠ bl
  below : Below w.heap.size w wr
theorem Seen.move {w wr w1 : World} {bs bm bl : Nat} {f : ByteArray → Option Unit} {n : Nat} {v : Value} {L : List ByteArray} (h : Seen w wr bs bm bl f n v L) (hb : Below wr.heap.size wr w1) : Seen w w1 bs bm bl f n v L :=
  { h with
    svar := (hb.block _ (Array.getElem?_eq_some_iff.1 h.svar).1).trans h.svar
    map := h.map.below hb
    lvar := (hb.block _ (Array.getElem?_eq_some_iff.1 h.lvar).1).trans h.lvar
    row := Kd.R_below h.row hb
    below := below_then h.below h.below.size hb }
theorem z121 (w : World) : (zeroValue 121).run Try.prog w = .ok (.agg #[]) w := by kernel_rfl

theorem frozen_of_row {w : World} {g : Nat} {cs : Array Value} {t : TypeId} (h : w.heap[g]? = some (.cells cs t (0, 0))) (i : Nat) : w.frozen? ⟨g, i, none⟩ = false := by simp [World.frozen?, h]
theorem seen_put {w W w4 w8 : World} {bs bm bl : Nat} {f : ByteArray → Option Unit} {n n' : Nat} {v v8 : Value} {L : List ByteArray} {x : ByteArray} (h : Seen w W bs bm bl f n v L) (hM : MapF Value.string unitV okS w4 bm (upd f x ()) n')
    (hs : w4.heap[bs]? = some (.cells #[.map (some bm)] 93 (0, 0))) (hl : w8.heap[bl]? = some (.cells #[v] 22 (0, 0))) (hR : Kd.R Kd.string 9 w8 w.heap.size (fun k => k ≠ bs ∧ k ≠ bm ∧ k ≠ bl) v8 (L ++ [x])) (hB : Below w.heap.size w w8) (hg : w4.grownBy w8 v.ownBlock)
    (hR4 : Kd.R Kd.string 9 w4 w.heap.size (fun k => k ≠ bs ∧ k ≠ bm ∧ k ≠ bl) v L) : Seen w (w8.setCell ⟨bl, 0, none⟩ v8) bs bm bl (upd f x ()) n' v8 (L ++ [x]) where
  svar := by
    have : w8.heap[bs]? = some (.cells #[.map (some bm)] 93 (0, 0)) := (hg.block _ (Array.getElem?_eq_some_iff.1 hs).1 (fun e => (hR4.1 _ e.symm).1 rfl)).trans hs
    exact (Below.heap_setCell _ _ _ _ h.sl).trans this
  map := (hM.grown hg (fun e => (hR4.1 _ e.symm).2.1 rfl)).setCell (fun e => h.ml e.symm) _
  lvar := one_setCell hl
  row := Kd.R_far hR (fun k hk => hk.2.2) _
  has := fun s => by
    by_cases e : s = x
    · subst e; simp [upd_same]
    · rw [upd_other _ _ e, List.mem_append, List.mem_singleton, h.has s]
      simp [e]
  gs := h.gs
  gm := h.gm
  gl := h.gl
  sm := h.sm
  sl := h.sl
  ml := h.ml
  below := hB.setCell h.gl _

set_option maxHeartbeats 2000000 in
set_option maxRecDepth 100000 in
theorem put_calls (A : Option Addr) (c : Nat) (xs : List ByteArray) (w w0 : World) (bs bm bl : Nat) (f : ByteArray → Option Unit) (n : Nat) (v : Value) (L U : List ByteArray) (hS : Seen w w0 bs bm bl f n v L)
    (hC : ∀ wr, Below w.heap.size w wr → Kd.C Kd.string wr A xs.length xs) (hok : ∀ s ∈ xs, okS s) (hL : L.Nodup) (hU : ∀ s, s ∈ L ∨ s ∈ xs → s ∈ U) (hlim : U.length ≤ 8796093022207) :
    Calls Try.prog 92 #[.slice A xs.length c, .pointer (some ⟨bs, 0, none⟩), .pointer (some ⟨bl, 0, none⟩)] w0 fun e w' => e = .returned (.tuple #[]) ∧ ∃ f' n' v', Seen w w' bs bm bl f' n' v' (putAll L xs) := by
  have hmax : xs.length ≤ 9223372036854775807 := (hC w0 hS.below).2.1
  have HS0 := Aside0.mk hS
  have HC := Aside0.mk hC
  have HOK := Aside0.mk hok
  have HL := Aside0.mk hL
  have HU := Aside0.mk hU
  have HLIM := Aside0.mk hlim
  clear hS hC hok hL hU hlim
  go_enter Try.func92, Try.ntmps92
  go_wp2
  go_loopw [10] (fun u wr => ∃ (k : Nat) (f : ByteArray → Option Unit) (n : Nat) (v : Value), k ≤ xs.length ∧ u = .int .i64 k ∧ Aside0 (Seen w wr bs bm bl f n v (putAll L (xs.take k)))) (fun u _ => xs.length - (intOf u).toNat)
  case atStart => exact ⟨0, _, _, _, Nat.zero_le _, rfl, HS0⟩
  case round =>
    obtain ⟨k, f, n, v, hk, rfl, HR⟩ := hrel
    by_cases hlt : k < xs.length
    · obtain ⟨ad, e0, hx⟩ := Kd.at_string (HC.out _ HR.out.below) (k : Int) (by omega) (by omega)
      have hget : rdOf ByteArray.empty xs (k : Int) = xs[k] := by simp [rdOf, hlt]
      cases e0
      simp only [hget, Int.toNat_natCast] at hx
      have hq := HOK.out xs[k] (List.getElem_mem hlt)
      have hmem : xs[k] ∈ xs := List.getElem_mem hlt
      have htk : xs.take (k + 1) = xs.take k ++ [xs[k]] := List.take_succ_eq_append_getElem hlt
      obtain ⟨x, hxx⟩ : ∃ x, x = xs[k] := ⟨_, rfl⟩
      rw [← hxx] at hx hq hmem htk
      have HQ := Aside0.mk hq
      have HMEM := Aside0.mk hmem
      have HTK := Aside0.mk htk
      clear hq hxx hget hmem htk
      have c0' : (k : Int) < xs.length := by omega
      have hsv : wr.cell? ⟨bs, 0, none⟩ = some (.map (some bm)) := by rw [cell_of_row _ _ _ _ _ _ HR.out.svar]; rfl
      have hlk := HR.out.map.lookup str_key Try.underlying93 (z121 wr) HQ.out true
      have hz := z121 wr
      have hu := Try.underlying121
      obtain ⟨L1, hL1⟩ : ∃ L1, L1 = putAll L (xs.take k) := ⟨_, rfl⟩
      rw [← hL1] at HR
      have hput : putAll L (xs.take (k + 1)) = put1 L1 x := by rw [HTK.out, putAll_snoc, ← hL1]
      have HPUT := Aside0.mk hput
      have hlen : L1.length ≤ U.length := by
        subst hL1
        refine nodup_le _ _ (nodup_putAll _ HL.out) fun s hs => HU.out s ?_
        rcases (mem_putAll _ _ _).1 hs with h | h
        · exact .inl h
        · exact .inr (List.mem_of_mem_take h)
      have hlim : (L1.length + 1) * 16 ≤ 140737488355328 := by have := HLIM.out; omega
      have HLEN := Aside0.mk hlim
      clear hput hL1 hlen hlim
      cases hfx : f x with
      | some u =>
        have hin : x ∈ L1 := (HR.out.has x).1 (by rw [hfx]; rfl)
        simp only [hfx, if_true, Option.map_some, Option.getD_some, Option.isSome_some] at hlk
        go_wp2
        go_roundw
        case rel => exact ⟨k + 1, f, n, v, by omega, by go_num, ⟨by rw [HPUT.out, put1, if_pos hin]; exact HR.out.move (below_alloc (Below.refl _ _) _)⟩⟩
        case measure => simp [intOf]; omega
      | none =>
        have hin : x ∉ L1 := fun h => by have := (HR.out.has x).2 h; rw [hfx] at this; cases this
        simp only [hfx, if_true, Option.map_none, Option.getD_none, Option.isSome_none] at hlk
        go_upto_region 5 with fail
        have HW := HR.out.move (below_alloc (Below.refl _ _) (.cells #[] 121))
        obtain ⟨W2, hW2⟩ : ∃ W2, W2 = wr.alloc (.cells #[] 121) := ⟨_, rfl⟩
        rw [← hW2] at HW ⊢
        clear hW2 hlk hz hu hsv HR
        have hsv : W2.cell? ⟨bs, 0, none⟩ = some (.map (some bm)) := by rw [cell_of_row _ _ _ _ _ _ HW.svar]; rfl
        obtain ⟨w4, hrun, hM4, hg4⟩ := HW.map.update str_key Try.underlying93 HQ.out ()
        have hrun4 : (Instr.mapUpdate 93 (.map (some bm)) (.string x) (.agg #[])).run Try.prog W2 = .ok () w4 := hrun
        have hlv0 : w4.heap[bl]? = some (.cells #[v] 22 (0, 0)) := (hg4.block _ (Array.getElem?_eq_some_iff.1 HW.lvar).1 (fun e => HW.ml (Option.some.inj e).symm)).trans HW.lvar
        have hlv : w4.cell? ⟨bl, 0, none⟩ = some v := by rw [cell_of_row _ _ _ _ _ _ hlv0]; rfl
        have hR4 := Kd.R_grown HW.row hg4 (fun k hk e => hk.2.1 (Option.some.inj e))
        have hB4 := HW.below.grown hg4 HW.below.size (fun k hk => by cases hk; exact HW.gm)
        have hsv4 : w4.heap[bs]? = some (.cells #[.map (some bm)] 93 (0, 0)) := (hg4.block _ (Array.getElem?_eq_some_iff.1 HW.svar).1 (fun e => HW.sm (Option.some.inj e))).trans HW.svar
        have hfresh : ∀ k, w4.heap.size ≤ k → (k ≠ bs ∧ k ≠ bm ∧ k ≠ bl) := fun k hk => by
          have h1 := (Array.getElem?_eq_some_iff.1 hsv4).1
          have h2 := (Array.getElem?_eq_some_iff.1 hlv0).1
          have h3 := hM4.lt
          omega
        have HR4 := Aside0.mk hR4
        have HB4 := Aside0.mk hB4
        have HF := Aside0.mk hfresh
        have HM4 := Aside0.mk hM4
        have HS4 := Aside0.mk hsv4
        have HL4 := Aside0.mk hlv0
        have HW2 := Aside0.mk HW
        clear hR4 hB4 hfresh hM4 hsv4 hlv0 HW hrun
        go_wp2_with (first | ((with_reducible refine gate_builtin (b := .append) (xs := #[.tmp 25, .tmp 27]) rfl ?_); at_builtin; refine Kd.R_append Kd.string (w0 := w) w.heap.size rfl (.tmp 25) (.tmp 27) 22 9 (.string ⟨#[]⟩) 16 rfl Try.underlying22 info9 rfl (by decide) (by decide) v L1 x [.string x] (fun k => k ≠ bs ∧ k ≠ bm ∧ k ≠ bl) (fun _ => False) rfl rfl rfl (fun _ hk => hk.elim) HF.out HR4.out HB4.out HB4.out.size HLEN.out ?_; intro v8 w8 hR8 hB8 hg8 hat8; obtain ⟨A8, c8, rfl⟩ := Kd.R_slice hR8; have hl8 : w8.heap[bl]? = some (.cells #[v] 22 (0, 0)) := (hg8.block _ (Array.getElem?_eq_some_iff.1 HL4.out).1 (fun e => (HR4.out.1 _ e.symm).2.2 rfl)).trans HL4.out; have hlc8 : w8.cell? ⟨bl, 0, none⟩ = some v := (cell_of_row _ _ _ _ _ _ hl8).trans rfl; have hlf8 : w8.frozen? ⟨bl, 0, none⟩ = false := frozen_of_row hl8 0; have HR8 := Aside0.mk hR8; have HB8 := Aside0.mk hB8; have HG8 := Aside0.mk hg8; have HL8 := Aside0.mk hl8; clear hR8 hB8 hg8 hat8 hl8))
        go_roundw
        case rel =>
          have hn := seen_put HW2.out HM4.out HS4.out HL8.out HR8.out HB8.out HG8.out HR4.out
          have e : putAll L (xs.take (k + 1)) = L1 ++ [x] := by rw [HPUT.out, put1, if_neg hin]
          rw [List.length_append, List.length_singleton, ← e] at hn
          exact ⟨k + 1, _, _, _, by omega, by go_num, ⟨hn⟩⟩
        case measure => simp [intOf]; omega
    · have hkk : k = xs.length := by omega
      subst hkk
      have hfin := HR.out
      rw [List.take_length] at hfin
      go_wp2
      go_end0
      exact ⟨rfl, _, _, _, hfin⟩
end Go.Proofs.Ythaiodklfoegiaa.MPut

/- reach.Close over lines, reach.Up. -/
namespace Go.Proofs.Ythaiodklfoegiaa.MClose
open Go.RowKit Go.Proofs.YthaiodklfoegiaaW.PrintWords Go.Proofs.YthaiodklfoegiaaW.PrintLast Go.Proofs.YthaiodklfoegiaaW.PrintMore Go.Proofs.Ythaiodklfoegiaa.BMap Go.Proofs.Ythaiodklfoegiaa.BRow Go.Proofs.Ythaiodklfoegiaa.MLines Go.Proofs.Ythaiodklfoegiaa.MPut Go.Maps
open Go.Proofs.Ythaiodklfoegiaa Go.Proofs.Ythaiodklfoegiaa.PG

/-- What is reached along pairs. -/
inductive Reach (ps : List S108) (x : ByteArray) : ByteArray → Prop where
  | here : Reach ps x x
  | step {s : ByteArray} {q : S108} : Reach ps x s → q ∈ ps → q.f0 = s → Reach ps x q.f1
theorem mem_targets (ps : List S108) (s t : ByteArray) : t ∈ targets ps s ↔ ∃ q ∈ ps, q.f0 = s ∧ q.f1 = t := by
  unfold targets
  rw [List.mem_map]
  constructor
  · rintro ⟨q, hq, rfl⟩
    have := List.mem_filter.1 hq
    exact ⟨q, this.1, of_decide_eq_true this.2, rfl⟩
  · rintro ⟨q, hq, h1, rfl⟩
    exact ⟨q, List.mem_filter.2 ⟨hq, decide_eq_true h1⟩, rfl⟩

/-- The list as it grows: what stands ahead of i has had its turn. -/
structure Turn (ps : List S108) (x : ByteArray) (L : List ByteArray) (i : Nat) : Prop where
  nodup : L.Nodup
  le : i ≤ L.length
  has : x ∈ L
  reach : ∀ s ∈ L, Reach ps x s
  done : ∀ (j : Nat) (h : j < L.length), j < i → ∀ t ∈ targets ps L[j], t ∈ L
theorem Turn.start (ps : List S108) (x : ByteArray) : Turn ps x (MPut.putAll [] [x]) 0 := by
  have e : MPut.putAll [] [x] = [x] := by simp [MPut.putAll, put1]
  rw [e]
  exact ⟨by simp, by simp, by simp, fun s hs => by rw [List.mem_singleton.1 hs]; exact .here, fun j _ h => by omega⟩
theorem Turn.next {ps : List S108} {x : ByteArray} {L : List ByteArray} {i : Nat} (h : Turn ps x L i) (hi : i < L.length) : Turn ps x (MPut.putAll L (targets ps L[i])) (i + 1) := by
  obtain ⟨M, hM⟩ := putAll_prefix (targets ps L[i]) L
  refine ⟨nodup_putAll _ h.nodup, by rw [hM, List.length_append]; omega, (mem_putAll _ _ _).2 (.inl h.has), fun s hs => ?_, fun j hj hji t ht => ?_⟩
  · rcases (mem_putAll _ _ _).1 hs with hs | hs
    · exact h.reach s hs
    · obtain ⟨q, hq, h1, rfl⟩ := (mem_targets _ _ _).1 hs
      exact .step (h.reach _ (List.getElem_mem hi)) hq h1
  · have hjL : j < L.length := by omega
    have e : (MPut.putAll L (targets ps L[i]))[j] = L[j] := by
      have h2 : (MPut.putAll L (targets ps L[i]))[j]? = (L ++ M)[j]? := by rw [hM]
      rw [List.getElem?_eq_getElem hj, List.getElem?_append_left hjL, List.getElem?_eq_getElem hjL] at h2
      exact Option.some.inj h2
    rw [e] at ht
    refine (mem_putAll _ _ _).2 ?_
    by_cases hji2 : j = i
    · subst hji2; exact .inr ht
    · exact .inl (h.done j hjL (by omega) t ht)
theorem Turn.all {ps : List S108} {x : ByteArray} {L : List ByteArray} (h : Turn ps x L L.length) (s : ByteArray) : s ∈ L ↔ Reach ps x s := by
  constructor
  · exact h.reach s
  · intro hr
    induction hr with
    | here => exact h.has
    | step _ hq e ih =>
      obtain ⟨j, hj, rfl⟩ := List.getElem_of_mem ih
      exact h.done j hj hj _ ((mem_targets _ _ _).2 ⟨_, hq, e, rfl⟩)
theorem reach_in {ps : List S108} {x s : ByteArray} (h : Reach ps x s) : s = x ∨ s ∈ ps.map (·.f1) := by
  cases h with
  | here => exact .inl rfl
  | step _ hq _ => exact .inr (List.mem_map_of_mem hq)
theorem Turn.short {ps : List S108} {x : ByteArray} {L : List ByteArray} {i : Nat} (h : Turn ps x L i) : L.length ≤ ps.length + 1 := by
  have := nodup_le L (x :: ps.map (·.f1)) h.nodup (fun s hs => by
    rcases reach_in (h.reach s hs) with rfl | h'
    · simp
    · exact List.mem_cons_of_mem _ h')
  simpa using this

theorem next_calls (x : ByteArray) (bv b : Nat) (w wr : World) (f : ByteArray → Option Value) (n : Nat) (ps : List S108) (hL : Lines w wr b f n ps) (hv : wr.cell? ⟨bv, 0, none⟩ = some (.map (some b))) (hx : okS x) :
    Calls Try.prog 90 #[.string x, .pointer (some ⟨bv, 0, none⟩)] wr fun e w' => e = .returned ((f x).getD (.slice none 0 0)) ∧ w' = wr := by
  have hlk := hL.map.lookup str_key Try.underlying125 (z22 wr) hx false
  simp only [Bool.false_eq_true, if_false, Option.map_id_fun, id] at hlk
  clear hL
  go_enter Try.func90, Try.ntmps90
  go_wp2
  go_ret
  exact ⟨rfl, rfl⟩

/-- What the map's row is. -/
theorem Lines.read {w wr w1 : World} {b : Nat} {f : ByteArray → Option Value} {n : Nat} {ps : List S108} (h : Lines w wr b f n ps) (hb : Below wr.heap.size wr w1) (s : ByteArray) :
    ∃ A c, (f s).getD (.slice none 0 0) = .slice A (targets ps s).length c ∧ Kd.C Kd.string w1 A (targets ps s).length (targets ps s) := by
  cases hf : f s with
  | none =>
    rw [h.no s hf]
    exact ⟨none, 0, rfl, rfl, by simp, fun h => absurd h (by simp)⟩
  | some v =>
    obtain ⟨A, c, rfl, _, hr⟩ := Kd.R_reads (Kd.R_below (h.vals s v hf) hb)
    exact ⟨A, c, rfl, hr⟩

theorem func_not_nil (v : Value) (w : World) : (binOp .neq 128 (.func (.func 90) #[] #[v]) .nilFunc).run Try.prog w = .ok (.bool true) w := by kernel_rfl

set_option maxHeartbeats 2000000 in
set_option maxRecDepth 100000 in
theorem close_calls (A : Option Addr) (c : Nat) (x : ByteArray) (bv b : Nat) (w0 w : World) (f : ByteArray → Option Value) (n : Nat) (ps : List S108) (hL : Lines w0 w b f n ps) (hv : w.cell? ⟨bv, 0, none⟩ = some (.map (some b)))
    (hC : Kd.C Kd.string w A 1 [x]) (hx : okS x) (hok : ∀ q ∈ ps, okS q.f0 ∧ okS q.f1) (hb : ps.length ≤ 8796093021952) :
    Calls Try.prog 89 #[.slice A 1 c, .func (.func 90) #[] #[.pointer (some ⟨bv, 0, none⟩)]] w fun e w' => ∃ v, e = .returned v ∧ ∃ L, Kd.R Kd.string 9 w' w.heap.size (fun _ => True) v L ∧ L.Nodup ∧ (∀ s, s ∈ L ↔ Reach ps x s) ∧ Below w.heap.size w w' := by
  have HL := Aside0.mk hL
  have HV := Aside0.mk hv
  have HC := Aside0.mk hC
  have HX := Aside0.mk hx
  have HOK := Aside0.mk hok
  have HB := Aside0.mk hb
  clear hL hv hC hx hok
  have hmm := @run_makeMap Try.prog
  go_enter Try.func89, Try.ntmps89
  go_upto_region 4 with fail
  obtain ⟨W, hW⟩ : ∃ W, W = (((w.alloc (.map #[] 0)).alloc (.cells #[.map (some w.heap.size)] 93)).alloc (.cells #[.slice none 0 0] 22)) := ⟨_, rfl⟩
  have hS : Seen w W (w.heap.size + 1) w.heap.size (w.heap.size + 1 + 1) (fun _ => none) 0 (.slice none 0 0) [] := by
    subst hW
    refine ⟨?_, ?_, ?_, Kd.R_nil _ _ _ _ _, fun s => by simp, by omega, by omega, by omega, by omega, by omega, by omega, ?_⟩
    · have h1 := heap_alloc_new (w.alloc (.map #[] 0)) (.cells #[.map (some w.heap.size)] 93)
      rw [World.size_alloc] at h1
      exact (Below.heap_alloc _ _ _ (by simp)).trans h1
    · exact ((MapF.made w).alloc _).alloc _
    · have h1 := heap_alloc_new ((w.alloc (.map #[] 0)).alloc (.cells #[.map (some w.heap.size)] 93)) (.cells #[.slice none 0 0] 22)
      rw [World.size_alloc, World.size_alloc] at h1
      exact h1
    · exact below_alloc (below_alloc (below_alloc (Below.refl _ _) _) _) _
  rw [← hW]
  have HS := Aside0.mk hS
  clear hmm hW hS
  go_upto_region 6 with (first | (go_at_call 92; (refine (put_calls A c [x] w W (w.heap.size + 1) w.heap.size (w.heap.size + 1 + 1) (fun _ => none) 0 (.slice none 0 0) [] [x] HS.out (fun wr hb => Kd.C_below HC.out hb) (fun s hs => by rw [List.mem_singleton.1 hs]; exact HX.out) (by simp) (fun s hs => by simpa using hs) (by simp)).mono ?_); rintro e w2 ⟨rfl, f2, n2, v2, hS2⟩; have HS2 := Aside0.mk hS2; clear hS2))
  go_loopw [8] (fun u wr => ∃ (i : Nat) (f' : ByteArray → Option Unit) (n' : Nat) (v : Value) (L : List ByteArray), u = .int .i64 i ∧ Aside0 (Turn ps x L i) ∧ Aside0 (Seen w wr (w.heap.size + 1) w.heap.size (w.heap.size + 1 + 1) f' n' v L)) (fun u _ => ps.length + 1 - (intOf u).toNat)
  case atStart => exact ⟨0, f2, n2, v2, _, rfl, ⟨Turn.start ps x⟩, HS2⟩
  case round =>
    obtain ⟨i, f', n', v, L, rfl, HT, HR⟩ := hrel
    obtain ⟨Al, cl, rfl, hcl, hrl⟩ := Kd.R_reads HR.out.row
    have hlv : wr.cell? ⟨w.heap.size + 1 + 1, 0, none⟩ = some (.slice Al L.length cl) := by rw [cell_of_row _ _ _ _ _ _ HR.out.lvar]; rfl
    by_cases hlt : i < L.length
    · have hiI : (i : Int) < L.length := by omega
      obtain ⟨ad, e0, hx⟩ := Kd.at_string hrl (i : Int) (by omega) (by omega)
      have hget : rdOf ByteArray.empty L (i : Int) = L[i] := by simp [rdOf, hlt]
      simp only [hget, Int.toNat_natCast] at hx
      subst e0
      have hnn := func_not_nil (.pointer (some ⟨bv, 0, none⟩)) wr
      obtain ⟨y, hy⟩ : ∃ y, y = L[i] := ⟨_, rfl⟩
      rw [← hy] at hx
      have hyx : Reach ps x y := by rw [hy]; exact HT.out.reach _ (List.getElem_mem hlt)
      have hyok : okS y := by
        rcases reach_in hyx with e | h
        · rw [e]; exact HX.out
        · obtain ⟨q, hq, e⟩ := List.mem_map.1 h
          rw [← e]; exact (HOK.out q hq).2
      have HY := Aside0.mk hyok
      have HYL := Aside0.mk hy
      clear hyx hyok hy
      obtain ⟨At, ct, hft, hCt⟩ := Lines.read HL.out (Below.refl _ w) y
      have HCT := Aside0.mk hCt
      have hlen := HT.out.short
      have HN := Aside0.mk (HT.out.next hlt)
      rw [← HYL.out] at HN
      clear hCt
      go_wp2_with (first | (go_at_call 90; (refine (next_calls y bv b w0 wr f n ps (HL.out.move HR.out.below) ((pw_cell_below HR.out.below HV.out)) HY.out).mono ?_); rintro e w5 ⟨rfl, rfl⟩; rw [hft]) | (go_at_call 92; (refine (put_calls At ct (targets ps y) w _ (w.heap.size + 1) w.heap.size (w.heap.size + 1 + 1) f' n' _ L (x :: ps.map (·.f1)) HR.out (fun wr hb => Kd.C_below HCT.out hb) (fun s hs => by obtain ⟨q, hq, _, rfl⟩ := (mem_targets _ _ _).1 hs; exact (HOK.out q hq).2) HT.out.nodup (fun s hs => by rcases hs with hs | hs; (rcases reach_in (HT.out.reach s hs) with rfl | h; (simp); (exact List.mem_cons_of_mem _ h)); (obtain ⟨q, hq, _, rfl⟩ := (mem_targets _ _ _).1 hs; exact List.mem_cons_of_mem _ (List.mem_map_of_mem hq))) (by have := HB.out; simp; omega)).mono ?_); rintro e w6 ⟨rfl, f6, n6, v6, hS6⟩; have HS6 := Aside0.mk hS6; clear hS6))
      go_roundw
      case rel => exact ⟨i + 1, f6, n6, v6, _, by go_num, HN, HS6⟩
      case measure => simp [intOf]; omega
    · have hiI : ¬ (i : Int) < L.length := by omega
      have hnn := func_not_nil (.pointer (some ⟨bv, 0, none⟩)) wr
      have hii : i = L.length := by have := HT.out.le; omega
      subst hii
      go_wp2
      go_ret
      exact ⟨_, rfl, L, Kd.R_mono HR.out.row (fun _ _ => trivial), HT.out.nodup, HT.out.all, HR.out.below⟩

theorem C_one {α : Type} {enc : α → Value} {h1 : ∀ x, (enc x).oneCell' = true} {w : World} {b : Nat} {x : α} (h : w.cell? ⟨b, 0, none⟩ = some (enc x)) : Kd.C (Kd.scalar enc h1) w (some ⟨b, 0, none⟩) 1 [x] := by
  refine ⟨rfl, by decide, fun _ => ⟨_, rfl, fun j p hp => ?_⟩⟩
  have hj : j = 0 := by have := (List.getElem?_eq_some_iff.1 hp).1; simpa using this
  subst hj
  have hp : x = p := by simpa using hp
  subst hp
  refine ⟨[enc x], rfl, rfl, fun i u hu => ?_⟩
  have hi : i = 0 := by have := (List.getElem?_eq_some_iff.1 hu).1; simpa using this
  subst hi
  have hu : enc x = u := by simpa using hu
  subst hu
  simpa [Addr.add] using h

set_option maxHeartbeats 2000000 in
set_option maxRecDepth 100000 in
theorem up_calls (A : Option Addr) (c : Nat) (x : ByteArray) (w : World) (ps : List S108) (hC : Kd.C k108 w A ps.length ps) (hc : ps.length ≤ c) (hx : okS x) (hok : ∀ q ∈ ps, okS q.f0 ∧ okS q.f1) (hb : ps.length ≤ 8796093021952) :
    Calls Try.prog 82 #[.slice A ps.length c, .string x] w fun e w' => ∃ v, e = .returned v ∧ ∃ L, Kd.R Kd.string 9 w' w.heap.size (fun _ => True) v L ∧ L.Nodup ∧ (∀ s, s ∈ L ↔ Reach ps x s) ∧ Below w.heap.size w w' := by
  have HC := Aside0.mk hC
  have HX := Aside0.mk hx
  have HOK := Aside0.mk hok
  have HB := Aside0.mk hb
  have HCC := Aside0.mk hc
  clear hC hx hok hb hc
  go_enter Try.func82, Try.ntmps82
  go_upto_region 2 with (first | (go_at_call 88; (with_reducible refine (lines_calls A c ps w HC.out HCC.out HB.out (fun q hq => (HOK.out q hq).1)).mono ?_); rintro e w2 ⟨b, f, n, rfl, hL⟩; have HL := Aside0.mk hL; clear hL))
  have HL2 := HL.out.move (below_alloc (Below.refl _ w2) (.cells #[.map (some b)] 125))
  have HL3 := HL2.move (below_alloc (Below.refl _ _) (.cells #[.string x] 9))
  have hv : ((w2.alloc (.cells #[.map (some b)] 125)).alloc (.cells #[.string x] 9)).cell? ⟨w2.heap.size, 0, none⟩ = some (.map (some b)) := by go_simp
  have hc1 : ((w2.alloc (.cells #[.map (some b)] 125)).alloc (.cells #[.string x] 9)).cell? ⟨w2.heap.size + 1, 0, none⟩ = some (.string x) := by go_simp
  have HV := Aside0.mk hv
  have HC1 := Aside0.mk (C_one (enc := Value.string) (h1 := fun _ => rfl) hc1)
  have HL3 := Aside0.mk HL3
  clear hv hc1 HL2
  go_wp2_with (first | (go_at_call 89; (refine (close_calls (some ⟨w2.heap.size + 1, 0, none⟩) 1 x w2.heap.size b w _ f n ps HL3.out HV.out HC1.out HX.out HOK.out HB.out).mono ?_); rintro e w5 ⟨v, rfl, L, hR, hN, hS, hB5⟩; have HR5 := Aside0.mk hR; have HN5 := Aside0.mk hN; have HS5 := Aside0.mk hS; have HB5 := Aside0.mk hB5; clear hR hN hS hB5))
  go_ret
  exact ⟨_, rfl, L, Kd.R_lower HR5.out HL3.out.below.size, HN5.out, HS5.out, below_then HL3.out.below HL3.out.below.size HB5.out⟩
end Go.Proofs.Ythaiodklfoegiaa.MClose

/- slices.Grow of nothing, slices.Concat of two lists of pairs: up to what two lists of the greatest size take together. -/
namespace Go.Proofs.Ythaiodklfoegiaa.MConcat
open Go.RowKit Go.Proofs.YthaiodklfoegiaaW.PrintWords Go.Proofs.YthaiodklfoegiaaW.PrintLast Go.Proofs.YthaiodklfoegiaaW.PrintMore Go.Proofs.Ythaiodklfoegiaa.BMap Go.Proofs.Ythaiodklfoegiaa.BRow Go.Proofs.Ythaiodklfoegiaa.MLines Go.Proofs.Ythaiodklfoegiaa.MClose Go.Maps
open Go.Proofs.Ythaiodklfoegiaa Go.Proofs.Ythaiodklfoegiaa.PG

section
variable {P : Program}
theorem run_zeros_nil (w : World) (t ti ty e : TypeId) (i : TypeInfo) (z : Value) (size bytes : Nat) (ht : P.underlying t = some (.slice e)) {k : IntKind} (hti : P.underlying ti = some (.int k)) (hi : P.info? e = some i) (hz : i.zero = some z)
    (hsize : i.size = size) (hby : i.bytes = bytes) (hzs : z.cells.size = size) (hsz : 0 < size) (hb0 : 0 < bytes) (base : Nat) (kx : IntKind) (m : Nat) (hm : 0 < m) (hbytes : m * bytes ≤ 281474976710656) (hbase : base ≤ w.heap.size) :
    ∃ w' cap, (Builtin.append_ #[t, ti] ty #[.slice none 0 0, .int kx m]).run P w = .ok (.slice (some ⟨w.heap.size, 0, none⟩) m cap) w' ∧ w'.ownsRow base e size (.slice (some ⟨w.heap.size, 0, none⟩) m cap) m (Builtin.zeroCells z.cells m).toList ∧ w.grownBy w' none := by
  subst hsize
  subst hby
  have hle : m ≤ 281474976710656 := Nat.le_trans (Nat.le_mul_of_pos_right _ hb0) hbytes
  have h63 : m ≤ maxLen := by simp only [maxLen]; omega
  have hw : IntKind.i64.wrap (m : Int) = m := by rw [IntKind.wrap_i64]; omega
  have hneg : ¬ ((m : Int) < 0) := by omega
  have hbig : ¬ (281474976710656 < (m : Int) * (i.bytes : Int)) := by
    rw [← Int.natCast_mul]
    omega
  have hsn : i.size ≠ 0 := by omega
  have hmz : ¬ (m * i.size = 0) := Nat.mul_ne_zero (by omega) hsn
  have hm0 : m ≠ 0 := by omega
  have h63' : ¬ (9223372036854775807 < (m : Int)) := by omega
  have hcap : Builtin.nextslicecap m 0 = m := by unfold Builtin.nextslicecap; rw [if_pos (by omega)]
  have h48' : ¬ (281474976710656 < Builtin.nextslicecap m 0 * i.bytes) := by rw [hcap]; omega
  have hfo : (Builtin.firstCells i.size 0 (.slice none 0 0)).run P w.drew = .ok #[] w.drew := by simp [Builtin.firstCells]
  have hge := grownCap_ge w m 0 e
  have hcm : grownCap w m 0 e ≤ maxLen := grownCap_le_maxLen w m 0 e (by omega)
  have hl : (Builtin.zeroCells z.cells m).toList.length = m * i.size := by rw [Array.length_toList, size_zeroCells, hzs]
  refine ⟨w.drew.alloc (.cells (#[] ++ Builtin.zeroCells z.cells m ++ Builtin.zeroCells z.cells (grownCap w m 0 e - m)) e), grownCap w m 0 e, ?_, ⟨hl, .inr ⟨w.heap.size, _, _, rfl, hbase, heap_alloc_new w.drew _, by omega, hcm, ?_, ?_⟩⟩, ⟨rfl, rfl, rfl, by simp, fun k hk _ => heap_alloc_old w.drew _ hk⟩⟩
  · simp [Builtin.append_, run_underlying ht, run_underlying hti, sizeOf, typeInfo, zeroValue, hi, hz, asInt, asIntOf, hw, hneg, hbig, h63', h48', hm0, Question.forced, hfo, newRow, grownCap, hmz]
  · simp only [Array.size_append, size_zeroCells, hzs, ← Nat.add_mul, List.size_toArray, List.length_nil, Nat.zero_add]
    congr 1
    omega
  · simp only [Array.toList_append, List.nil_append]
    rw [← hl]
    exact List.take_left

theorem wpList_zeros_nil {ops : Array Oper} {rest : List Oper} {o : Oper} {a : Act} {Q : Exit → Act → World → Prop} (w : World) (hgd : o.guard = none) (s x : Operand) (t ti e : TypeId) (ho : o.op = .call { callee := .builtin .append, args := #[s, x], argTypes := #[t, ti] })
    (ht : P.underlying t = some (.slice e)) {k : IntKind} (hti : P.underlying ti = some (.int k)) (z : Value) (size bytes : Nat) (hinfo : (P.info? e).map (fun i => (i.zero, i.size, i.bytes)) = some (some z, size, bytes)) (hzs : z.cells.size = size) (hsz : 0 < size) (hb0 : 0 < bytes)
    (base : Nat) (kx : IntKind) (m : Nat) (hs : a.eval s = .slice none 0 0) (hx : a.eval x = .int kx m) (hm : 0 < m) (hbytes : m * bytes ≤ 281474976710656) (hbase : base ≤ w.heap.size)
    (h : ∀ w' g cap, w'.ownsRow base e size (.slice (some ⟨g, 0, none⟩) m cap) m (Builtin.zeroCells z.cells m).toList → w.grownBy w' none → m ≤ cap → wpList P ops Q rest (a.put o.dst (.slice (some ⟨g, 0, none⟩) m cap)) w') : wpList P ops Q (o :: rest) a w := by
  obtain ⟨i, hi, hzz⟩ := Option.map_eq_some_iff.1 hinfo
  simp only [Prod.mk.injEq] at hzz
  obtain ⟨hz0, hz1, hz2⟩ := hzz
  obtain ⟨w', cap, hr, hown, hg⟩ := run_zeros_nil (P := P) w t ti o.type e i z size bytes ht hti hi hz0 hz1 hz2 hzs hsz hb0 base kx m hm hbytes hbase
  have hcap : m ≤ cap := own_cap hown
  refine wpList_plain hgd fun K hK => ?_
  unfold Oper.wp execOp
  simp only [ho, resolve, invoke, builtin, Sem.run_bind, Sem.run_pure, Result.andThen_ok, List.map_toArray, List.map_cons, List.map_nil, hs, hx, hr]
  exact hK _ _ (h w' w.heap.size cap hown hg hcap)
end

/-- The cells of pairs. -/
def cs108 (xs : List S108) : List Value := xs.flatMap fun q => [.string q.f0, .string q.f1]
theorem cs108_length (xs : List S108) : (cs108 xs).length = xs.length * 2 := by
  induction xs with
  | nil => rfl
  | cons q r ih => simp [cs108] at ih ⊢; omega
theorem cs108_append (xs ys : List S108) : cs108 (xs ++ ys) = cs108 xs ++ cs108 ys := by simp [cs108]
theorem cs108_one (xs : List S108) : ∀ u ∈ cs108 xs, u.oneCell' = true := by
  intro u hu
  obtain ⟨q, _, h⟩ := List.mem_flatMap.1 hu
  simp only [List.mem_cons, List.not_mem_nil, or_false] at h
  rcases h with rfl | rfl <;> rfl
theorem cs108_get : ∀ (xs : List S108) (j : Nat) (h : j < xs.length), (cs108 xs)[j * 2]? = some (.string xs[j].f0) ∧ (cs108 xs)[j * 2 + 1]? = some (.string xs[j].f1)
  | q :: r, 0, _ => ⟨rfl, rfl⟩
  | q :: r, j + 1, h => by
    have := cs108_get r j (by simpa using h)
    have e1 : (j + 1) * 2 = j * 2 + 1 + 1 := by omega
    rw [e1]
    exact this
theorem C_cells {w : World} {A : Option Addr} {n : Nat} {xs : List S108} (h : Kd.C k108 w A n xs) (hn : 0 < n) : ∃ ad, A = some ad ∧ ∀ j u, (cs108 xs)[j]? = some u → w.cell? (ad.add j) = some u := by
  obtain ⟨ad, e, hc⟩ := h.2.2 hn
  refine ⟨ad, e, fun j u hu => ?_⟩
  have hj : j < xs.length * 2 := by have := (List.getElem?_eq_some_iff.1 hu).1; rwa [cs108_length] at this
  obtain ⟨k, hk⟩ : ∃ k, j = k * 2 ∨ j = k * 2 + 1 := ⟨j / 2, by omega⟩
  have hq : k < xs.length := by omega
  obtain ⟨c, _, hK, hcell⟩ := hc k xs[k] (List.getElem?_eq_getElem hq)
  have hK := k108_open hK
  subst hK
  obtain ⟨g0, g1⟩ := cs108_get xs k hq
  rcases hk with rfl | rfl
  · rw [g0] at hu
    rw [← Option.some.inj hu]
    exact hcell 0 _ rfl
  · rw [g1] at hu
    rw [← Option.some.inj hu]
    exact hcell 1 _ rfl
theorem C_of_cells {w : World} {ad : Addr} {xs : List S108} (hm : xs.length ≤ 9223372036854775807) (h : ∀ j u, (cs108 xs)[j]? = some u → w.cell? (ad.add j) = some u) : Kd.C k108 w (some ad) xs.length xs := by
  refine ⟨rfl, hm, fun _ => ⟨ad, rfl, fun j p hp => ?_⟩⟩
  obtain ⟨hj, rfl⟩ := List.getElem?_eq_some_iff.1 hp
  obtain ⟨g0, g1⟩ := cs108_get xs j hj
  refine ⟨[.string xs[j].f0, .string xs[j].f1], rfl, ⟨[.string xs[j].f0], [.string xs[j].f1], rfl, rfl, rfl⟩, fun i u hu => ?_⟩
  have hi : i < 2 := (List.getElem?_eq_some_iff.1 hu).1
  have : i = 0 ∨ i = 1 := by omega
  rcases this with rfl | rfl
  · obtain rfl : Value.string xs[j].f0 = u := by simpa using hu
    exact h (j * 2) _ g0
  · obtain rfl : Value.string xs[j].f1 = u := by simpa using hu
    exact h (j * 2 + 1) _ g1

/-- A row of one's own, with room for N. -/
def Roomy (n N : Nat) (v : Value) : Prop := (N = 0 ∧ v = .slice none 0 0) ∨ ∃ g cap, v = .slice (some ⟨g, 0, none⟩) n cap ∧ N ≤ cap
structure Held (w0 w : World) (v : Value) (xs : List S108) (N : Nat) : Prop where
  own : w.ownsRow w0.heap.size 108 2 v xs.length (cs108 xs)
  room : Roomy xs.length N v
  below : Below w0.heap.size w0 w
theorem Held.read {w0 w : World} {v : Value} {xs : List S108} {N : Nat} (h : Held w0 w v xs N) (hm : xs.length ≤ N) (h63 : N ≤ 9223372036854775807) : ∃ A c, v = .slice A xs.length c ∧ xs.length ≤ c ∧ Kd.C k108 w A xs.length xs := by
  rcases h.room with ⟨rfl, rfl⟩ | ⟨g, cap, rfl, hc⟩
  · obtain rfl : xs = [] := List.eq_nil_of_length_eq_zero (by omega)
    exact ⟨none, 0, rfl, Nat.le_refl _, rfl, by simp, fun h => absurd h (by simp)⟩
  · exact ⟨_, _, rfl, by omega, C_of_cells (by omega) (h.own.cells (g := g) rfl)⟩
theorem firstCells0 (size : Nat) (A : Option Addr) (c : Nat) (w : World) : (Builtin.firstCells size 0 (.slice A 0 c)).run Try.prog w = .ok #[] w := by
  cases A <;> simp [Builtin.firstCells, loadCells, loadCellsFrom]
theorem wpList_app108 {ops : Array Oper} {rest : List Oper} {o : Oper} {a : Act} {Q : Exit → Act → World → Prop} {w0 w : World} (hgd : o.guard = none) (s x : Operand) (ho : o.op = .call { callee := .builtin .append, args := #[s, x], argTypes := #[35, 35] })
    (v : Value) (xs ys : List S108) (N : Nat) {A : Option Addr} {c : Nat} (hs : a.eval s = v) (hx : a.eval x = .slice A ys.length c) (H : Held w0 w v xs N) (hC : Kd.C k108 w A ys.length ys) (hroom : xs.length + ys.length ≤ N)
    (h : ∀ v' w', Held w0 w' v' (xs ++ ys) N → wpList Try.prog ops Q rest (a.put o.dst v') w') : wpList Try.prog ops Q (o :: rest) a w := by
  obtain ⟨i, hi, hzz⟩ := Option.map_eq_some_iff.1 info108
  simp only [Prod.mk.injEq] at hzz
  obtain ⟨hz0, hz1, hz2⟩ := hzz
  have h32 : (Try.prog.underlying 35).isSome = true := by rw [Try.underlying35]; rfl
  refine wpList_plain hgd fun K hK => ?_
  have key : ∃ v' w', (Builtin.append_ #[35, 35] o.type #[v, .slice A ys.length c]).run Try.prog w = .ok v' w' ∧ Held w0 w' v' (xs ++ ys) N := by
    rcases H.room with ⟨rfl, rfl⟩ | ⟨g, cap, rfl, hc⟩
    · obtain rfl : xs = [] := List.eq_nil_of_length_eq_zero (by omega)
      obtain rfl : ys = [] := List.eq_nil_of_length_eq_zero (by omega)
      refine ⟨.slice none 0 0, w, ?_, H⟩
      simp [Builtin.append_, run_underlying Try.underlying35, sizeOf, typeInfo, hi, Builtin.lenOf, firstCells0]
    · rcases Nat.eq_zero_or_pos ys.length with h0 | h0
      · obtain rfl : ys = [] := List.eq_nil_of_length_eq_zero h0
        refine ⟨.slice (some ⟨g, 0, none⟩) xs.length cap, w, ?_, by rw [List.append_nil]; exact H⟩
        have hle : xs.length ≤ cap := by omega
        simp [Builtin.append_, run_underlying Try.underlying35, sizeOf, typeInfo, hi, Builtin.lenOf, firstCells0, hle, storeCells]
      · obtain ⟨ad, rfl, hcell⟩ := C_cells hC h0
        obtain ⟨w', hr, h2, h3⟩ := run_append_own_spare (P := Try.prog) w w0.heap.size 35 o.type 108 i 2 Try.underlying35 hi hz1 g xs.length cap (cs108 xs) H.own ad ys.length c (cs108 ys) (cs108_length ys) hcell (cs108_one ys) (by omega)
        refine ⟨_, w', hr, ⟨by rw [List.length_append, cs108_append]; exact h2, by rw [List.length_append]; exact .inr ⟨g, cap, rfl, hc⟩, H.below.grown h3 H.below.size (fun k hk => by cases hk; exact own_base H.own g rfl)⟩⟩
  obtain ⟨v', w', hr, hH⟩ := key
  unfold Oper.wp execOp
  simp only [ho, resolve, invoke, builtin, Sem.run_bind, Sem.run_pure, Result.andThen_ok, List.map_toArray, List.map_cons, List.map_nil, hs, hx, hr]
  exact hK _ _ (h v' w' hH)

set_option maxHeartbeats 2000000 in
set_option maxRecDepth 100000 in
theorem grow_calls (n : Nat) (w0 w : World) (hn : n ≤ 8796093021952) (hb : Below w0.heap.size w0 w) :
    Calls Try.prog 91 #[.slice none 0 0, .int .i64 n] w fun e w' => ∃ v, e = .returned v ∧ Held w0 w' v [] n := by
  by_cases h0 : n = 0
  · subst h0
    go_enter Try.func91, Try.ntmps91
    go_wp2
    go_ret
    exact ⟨_, rfl, World.ownsRow_nil w _ _ _, .inl ⟨rfl, rfl⟩, hb⟩
  · have hpos : (0 : Int) < (n : Int) := by omega
    have hp := Aside0.mk (show 0 < n by omega)
    have HN := Aside0.mk hn
    have HB := Aside0.mk hb
    clear hb h0
    go_enter Try.func91, Try.ntmps91
    go_wp2_with (first | ((with_reducible refine gate_builtin (b := .append) (xs := #[.tmp 20, .tmp 21]) rfl ?_); at_builtin; refine wpList_zeros_nil w rfl (.tmp 20) (.tmp 21) 35 3 108 rfl Try.underlying35 Try.underlying3 (.agg #[.string ⟨#[]⟩, .string ⟨#[]⟩]) 2 32 info108 rfl (by decide) (by decide) w0.heap.size .i64 n rfl rfl hp.out ?hb HB.out.size ?_; (case hb => have := HN.out; omega); intro w2 g cap hown hg hcap; have HOWN := Aside0.mk hown; have HG := Aside0.mk hg; have HCAP := Aside0.mk hcap; clear hown hg hcap))
    go_ret
    exact ⟨_, rfl, own_take HOWN.out (Nat.zero_le _), .inr ⟨g, cap, rfl, HCAP.out⟩, HB.out.grown HG.out HB.out.size (fun k hk => by cases hk)⟩

def pre (near far : List S108) (k : Nat) : List S108 := if k = 0 then [] else if k = 1 then near else near ++ far
def sums (n N : Nat) (k : Nat) : Nat := if k = 0 then 0 else if k = 1 then n else N

set_option maxHeartbeats 2000000 in
set_option maxRecDepth 100000 in
theorem concat_calls (A1 : Option Addr) (c1 : Nat) (near : List S108) (A2 : Option Addr) (c2 : Nat) (far : List S108) (b : Nat) (w : World) (hc0 : w.cell? ⟨b, 0, none⟩ = some (.slice A1 near.length c1)) (hc1 : w.cell? ⟨b, 1, none⟩ = some (.slice A2 far.length c2))
    (h1 : Kd.C k108 w A1 near.length near) (h2 : Kd.C k108 w A2 far.length far) (hsum : near.length + far.length ≤ 8796093021952) :
    Calls Try.prog 83 #[.slice (some ⟨b, 0, none⟩) 2 2] w fun e w' => ∃ v, e = .returned v ∧ Held w w' v (near ++ far) (near.length + far.length) := by
  have H1 := Aside0.mk h1
  have H2 := Aside0.mk h2
  clear h1 h2
  obtain ⟨N, hN⟩ : ∃ N, N = near.length + far.length := ⟨_, rfl⟩
  rw [← hN] at hsum ⊢
  have HC0 := Aside0.mk hc0
  have HC1 := Aside0.mk hc1
  go_enter Try.func83, Try.ntmps83
  go_wp2
  go_loopw [3, 11] (fun v3 v11 wr => ∃ k : Nat, k ≤ 2 ∧ v3 = .int .i64 (sums near.length N k) ∧ v11 = .int .i64 k ∧ wr = w) (fun _ v11 _ => 2 - (intOf v11).toNat)
  case atStart => exact ⟨0, by omega, rfl, rfl, rfl⟩
  case round =>
    obtain ⟨k, hk, rfl, rfl, hw⟩ := hrel
    have hw := hw.symm
    subst hw
    have h3 : k = 0 ∨ k = 1 ∨ k = 2 := by omega
    rcases h3 with rfl | rfl | rfl
    · rw [show sums near.length N 0 = 0 from rfl]
      go_wp2
      go_roundw
      case rel => exact ⟨1, by omega, rfl, rfl, trivial⟩
      case measure => simp [intOf]
    · rw [show sums near.length N 1 = near.length from rfl]
      go_wp2
      go_roundw
      case rel => exact ⟨2, by omega, by show _ = Value.int .i64 (N : Int); go_num, rfl, trivial⟩
      case measure => simp [intOf]
    · rw [show sums near.length N 2 = N from rfl]
      have HN := Aside0.mk hN
      clear hN
      go_upto_region 10 with (first | (go_at_call 91; (with_reducible refine (grow_calls N w w hsum (Below.refl _ _)).mono ?_); rintro e w2 ⟨v, rfl, hH⟩; have HH := Aside0.mk hH; clear hH))
      have e0 := pw_cell_below HH.out.below HC0.out
      have e1 := pw_cell_below HH.out.below HC1.out
      go_wp2
      go_loopw [6, 27] (fun v6 v27 wq => ∃ k : Nat, k ≤ 2 ∧ v27 = .int .i64 k ∧ Aside0 (Held w wq v6 (pre near far k) N)) (fun _ v27 _ => 2 - (intOf v27).toNat)
      case atStart => exact ⟨0, by omega, rfl, HH⟩
      case round =>
        obtain ⟨k, hk, rfl, HR⟩ := hrel
        have h3 : k = 0 ∨ k = 1 ∨ k = 2 := by omega
        have e0 := pw_cell_below HR.out.below HC0.out
        have e1 := pw_cell_below HR.out.below HC1.out
        rcases h3 with rfl | rfl | rfl
        · go_wp2_with (first | ((with_reducible refine gate_builtin (b := .append) (xs := #[.tmp 31, .tmp 32]) rfl ?_); at_builtin; refine wpList_app108 (w0 := w) rfl (.tmp 31) (.tmp 32) rfl _ [] near N rfl rfl HR.out (Kd.C_below H1.out HR.out.below) (by have := HN.out; simp; omega) ?_; intro v' w' hH'; have HH' := Aside0.mk hH'; clear hH'))
          go_roundw
          case rel => exact ⟨1, by omega, rfl, HH'⟩
          case measure => simp [intOf]
        · go_wp2_with (first | ((with_reducible refine gate_builtin (b := .append) (xs := #[.tmp 31, .tmp 32]) rfl ?_); at_builtin; refine wpList_app108 (w0 := w) rfl (.tmp 31) (.tmp 32) rfl _ near far N rfl rfl HR.out (Kd.C_below H2.out HR.out.below) (by have := HN.out; omega) ?_; intro v' w' hH'; have HH' := Aside0.mk hH'; clear hH'))
          go_roundw
          case rel => exact ⟨2, by omega, rfl, HH'⟩
          case measure => simp [intOf]
        · go_wp2
          go_ret
          exact ⟨_, rfl, HR.out⟩
end Go.Proofs.Ythaiodklfoegiaa.MConcat

/- mean.stand: a side of a name. -/
namespace Go.Proofs.Ythaiodklfoegiaa.MStand
open Go.RowKit Go.Proofs.YthaiodklfoegiaaW.PrintWords Go.Proofs.YthaiodklfoegiaaW.PrintLast Go.Proofs.YthaiodklfoegiaaW.PrintMore Go.Proofs.Ythaiodklfoegiaa.BMap Go.Proofs.Ythaiodklfoegiaa.BRow Go.Proofs.Ythaiodklfoegiaa.MLines Go.Proofs.Ythaiodklfoegiaa.MPut Go.Proofs.Ythaiodklfoegiaa.MClose Go.Proofs.Ythaiodklfoegiaa.MConcat Go.Maps
open Go.Proofs.Ythaiodklfoegiaa Go.Proofs.Ythaiodklfoegiaa.PG

/-- Block b is the set of what R says. -/
def IsSet (W : World) (b : Nat) (R : ByteArray → Prop) : Prop := ∃ f n, MapF Value.string unitV okS W b f n ∧ ∀ s, (f s).isSome = true ↔ R s
theorem IsSet.below {W W1 : World} {b : Nat} {R : ByteArray → Prop} (h : IsSet W b R) (hb : Below W.heap.size W W1) : IsSet W1 b R := by
  obtain ⟨f, n, h1, h2⟩ := h
  exact ⟨f, n, h1.below hb, h2⟩
theorem IsSet.lt {W : World} {b : Nat} {R : ByteArray → Prop} (h : IsSet W b R) : b < W.heap.size := by
  obtain ⟨f, n, h1, h2⟩ := h
  exact h1.lt

structure Var (w wr : World) (bs bm : Nat) (name : ByteArray) (R : ByteArray → Prop) : Prop where
  rvar : wr.heap[w.heap.size]? = some (.cells #[.string ⟨#[]⟩, .float .f64 0, .map none] 95 (0, 0))
  var : wr.heap[bs]? = some (.cells #[.string name, .float .f64 0, .map (some bm)] 95 (0, 0))
  set : IsSet wr bm R
  ne : bs ≠ bm
  gs : w.heap.size < bs
  gm : w.heap.size < bm
  below : Below w.heap.size w wr
theorem Var.move {w wr w1 : World} {bs bm : Nat} {name : ByteArray} {R : ByteArray → Prop} (h : Var w wr bs bm name R) (hb : Below wr.heap.size wr w1) : Var w w1 bs bm name R :=
  ⟨(hb.block _ (Array.getElem?_eq_some_iff.1 h.rvar).1).trans h.rvar, (hb.block _ (Array.getElem?_eq_some_iff.1 h.var).1).trans h.var, h.set.below hb, h.ne, h.gs, h.gm, below_then h.below h.below.size hb⟩

theorem Var.put {w wr w5 : World} {bs bm : Nat} {name : ByteArray} {R R' : ByteArray → Prop} {f : ByteArray → Option Unit} {n : Nat} (h : Var w wr bs bm name R) (hM : MapF Value.string unitV okS w5 bm f n) (hg : wr.grownBy w5 (some bm)) (hf : ∀ s, (f s).isSome = true ↔ R' s) : Var w w5 bs bm name R' :=
  ⟨(hg.block _ (Array.getElem?_eq_some_iff.1 h.rvar).1 (fun e => absurd (Option.some.inj e) (Nat.ne_of_lt h.gm))).trans h.rvar, (hg.block _ (Array.getElem?_eq_some_iff.1 h.var).1 (fun e => h.ne (Option.some.inj e))).trans h.var, ⟨f, n, hM, hf⟩, h.ne, h.gs, h.gm, h.below.grown hg h.below.size (fun k hk => by cases hk; exact Nat.le_of_lt h.gm)⟩
theorem z95 (w : World) : (zeroValue 95).run Try.prog w = .ok (.agg #[.string ⟨#[]⟩, .float .f64 0, .map none]) w := by kernel_rfl
theorem i95 : (Try.prog.info? 95).map (·.size) = some 3 := by kernel_rfl

theorem up_to (A : Option Addr) (c : Nat) (x : ByteArray) (w : World) (ps : List S108) (n : Nat) (hn : ps.length = n) (hC : Kd.C k108 w A ps.length ps) (hc : ps.length ≤ c) (hx : okS x) (hok : ∀ q ∈ ps, okS q.f0 ∧ okS q.f1) (hb : n ≤ 8796093021952) :
    Calls Try.prog 82 #[.slice A n c, .string x] w fun e w' => ∃ v, e = .returned v ∧ ∃ L, Kd.R Kd.string 9 w' w.heap.size (fun _ => True) v L ∧ L.Nodup ∧ (∀ s, s ∈ L ↔ MClose.Reach ps x s) ∧ Below w.heap.size w w' := by
  subst hn; exact up_calls A c x w ps hC hc hx hok hb

set_option maxHeartbeats 2000000 in
set_option maxRecDepth 100000 in
theorem stand_calls (name : ByteArray) (A1 : Option Addr) (c1 : Nat) (near : List S108) (A2 : Option Addr) (c2 : Nat) (far : List S108) (w : World)
    (h1 : Kd.C k108 w A1 near.length near) (h2 : Kd.C k108 w A2 far.length far) (hx : okS name) (hok : ∀ q ∈ near ++ far, okS q.f0 ∧ okS q.f1) (hsum : near.length + far.length ≤ 8796093021952) :
    Calls Try.prog 75 #[.string name, .slice A1 near.length c1, .slice A2 far.length c2] w fun e w' => ∃ b, e = .returned (.agg #[.string name, .float .f64 0, .map (some b)]) ∧ IsSet w' b (MClose.Reach (near ++ far) name) ∧ w.heap.size ≤ b ∧ Below w.heap.size w w' := by
  have H1 := Aside0.mk h1
  have H2 := Aside0.mk h2
  have HX := Aside0.mk hx
  have HOK := Aside0.mk hok
  have HS := Aside0.mk hsum
  clear h1 h2 hx hok hsum
  have hmm := @run_makeMap Try.prog
  go_enter Try.func75, Try.ntmps75
  go_upto_region 2 with (first | ((with_reducible refine gate_dst (N := 7) rfl ?_); refine wpList_alloc_store rfl rfl 95 7 (.tmp 12) rfl rfl rfl #[.string ⟨#[]⟩, .float .f64 0, .map none] #[.string name, .float .f64 0, .map (some (w.heap.size + 1))] _ (z95 _) rfl i95 rfl (by simp [Value.oneCell']) ?hx ?hp ?_; (case hx => rfl); (case hp => rfl)))
  simp only [Act.put, List.setIfInBounds_toArray, List.set_cons_succ, List.set_cons_zero, World.size_alloc]
  obtain ⟨W, hW⟩ : ∃ W, W = (((w.alloc (.cells #[.string ⟨#[]⟩, .float .f64 0, .map none] 95)).alloc (.map #[] 0)).alloc (.cells #[.string name, .float .f64 0, .map (some (w.heap.size + 1))] 95)) := ⟨_, rfl⟩
  have hV : Var w W (w.heap.size + 1 + 1) (w.heap.size + 1) name (fun _ => False) := by
    subst hW
    have hmade := (MapF.made (kenc := Value.string) (venc := unitV) (ok := okS) (w.alloc (.cells #[.string ⟨#[]⟩, .float .f64 0, .map none] 95))).alloc (.cells #[.string name, .float .f64 0, .map (some (w.heap.size + 1))] 95)
    rw [World.size_alloc] at hmade
    refine ⟨?_, ?_, ⟨fun _ => none, 0, hmade, fun s => by simp⟩, by omega, by omega, by omega, below_alloc (below_alloc (below_alloc (Below.refl _ _) _) _) _⟩
    · exact (Below.heap_alloc _ _ _ (by simp only [World.size_alloc]; omega)).trans ((Below.heap_alloc _ _ _ (by simp only [World.size_alloc]; omega)).trans (heap_alloc_new w _))
    · have h1 := heap_alloc_new ((w.alloc (.cells #[.string ⟨#[]⟩, .float .f64 0, .map none] 95)).alloc (.map #[] 0)) (.cells #[.string name, .float .f64 0, .map (some (w.heap.size + 1))] 95)
      rw [World.size_alloc, World.size_alloc] at h1
      exact h1
  rw [← hW]
  have HV := Aside0.mk hV
  clear hmm hW hV
  have HV2 := Aside0.mk (HV.out.move (below_alloc (Below.refl _ W) (.cells #[.slice A1 near.length c1, .slice A2 far.length c2] 35)))
  have hc0 : (W.alloc (.cells #[.slice A1 near.length c1, .slice A2 far.length c2] 35)).cell? ⟨W.heap.size, 0, none⟩ = some (.slice A1 near.length c1) := by go_simp
  have hc1 : (W.alloc (.cells #[.slice A1 near.length c1, .slice A2 far.length c2] 35)).cell? ⟨W.heap.size, 1, none⟩ = some (.slice A2 far.length c2) := by go_simp
  have HWW := Aside0.mk (show W.heap.size < (W.alloc (.cells #[.slice A1 near.length c1, .slice A2 far.length c2] 35)).heap.size by simp)
  have HC0 := Aside0.mk hc0
  have HC1 := Aside0.mk hc1
  clear hc0 hc1
  go_upto_region 3 with (first | (go_at_call 83; (with_reducible refine (concat_calls A1 c1 near A2 c2 far W.heap.size _ HC0.out HC1.out (Kd.C_below H1.out HV2.out.below) (Kd.C_below H2.out HV2.out.below) HS.out).mono ?_); rintro e w2 ⟨v2, rfl, hH⟩; obtain ⟨A3, c3, rfl, hl3, hC3⟩ := hH.read (by simp) (by have := HS.out; omega); have HV3 := Aside0.mk (HV2.out.move hH.below); have HB3 := Aside0.mk hH.below.size; have HC3 := Aside0.mk hC3; have HL3 := Aside0.mk hl3; clear hH hC3 hl3) | (go_at_call 82; (with_reducible refine (up_to A3 c3 name _ (near ++ far) _ List.length_append HC3.out HL3.out HX.out HOK.out HS.out).mono ?_); rintro e w4 ⟨v4, rfl, L, hR, hN, hS, hB4⟩; obtain ⟨A4, c4, rfl, hl4, hC4⟩ := Kd.R_reads hR; have HV4 := Aside0.mk (HV3.out.move hB4); have HC4 := Aside0.mk hC4; have HN4 := Aside0.mk hN; have HS4 := Aside0.mk hS; have HR4 := Aside0.mk (Kd.R_lower (Kd.R_mono (Kd.R_bound hR) (ok' := fun k => w.heap.size + 2 < k) (fun k hk => Nat.lt_of_lt_of_le (Nat.lt_of_lt_of_le (Array.getElem?_eq_some_iff.1 HV.out.var).1 (Nat.le_trans (Nat.le_of_lt HWW.out) HB3.out)) hk.2.1)) HV3.out.below.size); clear hR hN hS hB4 hC4))
  have hmax : L.length ≤ 9223372036854775807 := HC4.out.2.1
  go_loopw [20] (fun u wr => ∃ k : Nat, k ≤ L.length ∧ u = .int .i64 k ∧ Aside0 (Var w wr (w.heap.size + 1 + 1) (w.heap.size + 1) name (fun s => s ∈ L.take k)) ∧ Aside0 (Kd.R Kd.string 9 wr w.heap.size (fun k => w.heap.size + 2 < k) (.slice A4 L.length c4) L)) (fun u _ => L.length - (intOf u).toNat)
  case atStart => exact ⟨0, Nat.zero_le _, rfl, ⟨by simpa using HV4.out⟩, HR4⟩
  case round =>
    obtain ⟨k, hk, rfl, HR, HRow⟩ := hrel
    by_cases hlt : k < L.length
    · obtain ⟨A5, c5, he5, _, hC5⟩ := Kd.R_reads HRow.out
      obtain ⟨rfl, rfl⟩ : A4 = A5 ∧ c4 = c5 := by simpa using he5
      obtain ⟨ad, e0, hx⟩ := Kd.at_string hC5 (k : Int) (by omega) (by omega)
      have hget : rdOf ByteArray.empty L (k : Int) = L[k] := by simp [rdOf, hlt]
      simp only [hget, Int.toNat_natCast] at hx
      cases e0
      obtain ⟨x, hxx⟩ : ∃ x, x = L[k] := ⟨_, rfl⟩
      rw [← hxx] at hx
      have hxok : okS x := by
        have hr : MClose.Reach (near ++ far) name x := (HS4.out x).1 (by rw [hxx]; exact List.getElem_mem hlt)
        rcases reach_in hr with e | h
        · rw [e]; exact HX.out
        · obtain ⟨q, hq, e⟩ := List.mem_map.1 h
          rw [← e]; exact (HOK.out q hq).2
      have HXO := Aside0.mk hxok
      have HXX := Aside0.mk hxx
      clear hC5 hget hxx hxok he5
      have hmv : wr.cell? ⟨w.heap.size + 1 + 1, 2, none⟩ = some (.map (some (w.heap.size + 1))) := by rw [cell_of_row _ _ _ _ _ _ HR.out.var]; rfl
      obtain ⟨f, n, hM, hf⟩ := HR.out.set
      obtain ⟨w5, hrun, hM5, hg5⟩ := hM.update str_key Try.underlying93 HXO.out ()
      have hrun5 : (Instr.mapUpdate 93 (.map (some (w.heap.size + 1))) (.string x) (.agg #[])).run Try.prog wr = .ok () w5 := hrun
      have c0' : (k : Int) < L.length := by omega
      have HM5 := Aside0.mk hM5
      have HG5 := Aside0.mk hg5
      have HF := Aside0.mk hf
      clear hM hM5 hg5 hrun hf
      go_wp2
      go_roundw
      case rel =>
        refine ⟨k + 1, by omega, by go_num, ⟨HR.out.put HM5.out HG5.out ?_⟩, ⟨Kd.R_grown HRow.out HG5.out (fun k hk e => by cases e; omega)⟩⟩
        intro s
        have hfs := HF.out s
        simp only [] at hfs
        rw [List.take_succ_eq_append_getElem hlt, List.mem_append, List.mem_singleton, ← HXX.out, ← hfs]
        by_cases e : s = x
        · subst e; simp [upd_same]
        · rw [upd_other _ _ e]; simp [e]
      case measure => simp [intOf]; omega
    · have hkk : k = L.length := by omega
      subst hkk
      have hV := HR.out
      rw [List.take_length] at hV
      have HV6 := Aside0.mk hV
      clear HR hV
      have hrange : wr.rangeAt (w.heap.size + 1 + 1) 0 [.string name, .float .f64 0, .map (some (w.heap.size + 1))] := fun j v hv => by
        rw [cell_of_row _ _ _ _ _ _ HV6.out.var, Nat.zero_add, ← hv]; simp
      have hthere : wr.there w.heap.size 0 3 := fun j hj => by
        rw [cell_of_row _ _ _ _ _ _ HV6.out.rvar, Nat.zero_add]
        exact ⟨by simp [hj], MPut.frozen_of_row HV6.out.rvar _⟩
      have HRG := Aside0.mk hrange
      have HTH := Aside0.mk hthere
      clear hrange hthere
      go_wp2_with (first | ((with_reducible refine gate_dst (N := 29) rfl ?_); refine wpList_load_mid rfl 95 (.tmp 7) rfl (w.heap.size + 1 + 1) 0 ?hx [.string name, .float .f64 0, .map (some (w.heap.size + 1))] _ HRG.out Try.underlying95 rfl i95 ?_; (case hx => rfl); refine wpList_store_mid rfl 95 (.tmp 6) (.tmp 29) rfl w.heap.size 0 #[.string name, .float .f64 0, .map (some (w.heap.size + 1))] ?hx ?hy HTH.out i95 (by simp [Value.oneCell']) ?_; (case hx => rfl); (case hy => rfl)))
      obtain ⟨cur, h3, h4, h5⟩ := setCells_row [.string name, .float .f64 0, .map (some (w.heap.size + 1))] 0 wr _ HV6.out.rvar (by simp)
      have hcur : cur = #[.string name, .float .f64 0, .map (some (w.heap.size + 1))] := by
        apply Array.ext'
        rw [h5]
        simp
      subst hcur
      obtain ⟨s1, s2, s3, s4⟩ := setCells_same w.heap.size [.string name, .float .f64 0, .map (some (w.heap.size + 1))] 0 wr
      (try simp only [Exit.inBlock, Exit.then])
      refine bodyPost_ret (results_single rfl (.cell w.heap.size 95 _ (0, 0) _ rfl h3 Try.underlying95 rfl i95 .nil)) rfl ?_
      have hfar : ∀ k, k ≠ w.heap.size → (wr.setCells w.heap.size 0 [.string name, .float .f64 0, .map (some (w.heap.size + 1))]).heap[k]? = wr.heap[k]? := fun k hk => setCells_far _ _ k hk
      obtain ⟨f, n, hM, hf⟩ := HV6.out.set
      refine ⟨_, rfl, ⟨f, n, hM.move (hfar _ (by omega)), fun s => (hf s).trans (HS4.out s)⟩, by omega, ⟨s1.trans HV6.out.below.os, s2.trans HV6.out.below.tape, s3.trans HV6.out.below.output, by rw [s4]; exact HV6.out.below.size, fun k hk => (hfar k (by omega)).trans (HV6.out.below.block k hk)⟩⟩
end Go.Proofs.Ythaiodklfoegiaa.MStand

namespace Go.Proofs.Ythaiodklfoegiaa.PG
open Go.Proofs.YthaiodklfoegiaaF
attribute [local go_sem high] run_feq run_fne run_flt_lt run_flt_le run_flt_gt run_flt_ge
open Go.RowKit Go.Proofs.YthaiodklfoegiaaW.PrintWords Go.Proofs.YthaiodklfoegiaaW.PrintLast Go.Proofs.YthaiodklfoegiaaW.PrintMore
attribute [local go_sem] max2_int min2_int max_two min_two max_three min_three max_four min_four   -- for this text's walks alone
set_option linter.unusedVariables false
set_option linter.unusedSimpArgs false

/-! ### mean_Passes: function 86 -/
def mean_Passes.f (a0_0 : Bool) (a0_1 : ByteArray) (a0_2 : ByteArray) (l0_3 : List ByteArray) (a0_4 : Int) (a0_5 : Nat) (a1 : Nat) : Option (Bool) := if a0_4 = 0 then (some true) else (if a0_4 = 1 then (some (flt_ge a1 a0_5)) else (if a0_4 = 2 then (some (flt_lt a1 a0_5)) else (some false)))
set_option maxHeartbeats 8000000 in
set_option maxRecDepth 100000 in
theorem mean_Passes.calls (a0_0 : Bool) (a0_1 : ByteArray) (a0_2 : ByteArray) (A0_3 : Option Addr) (c0_3 : Nat) (l0_3 : List ByteArray) (a0_4 : Int) (a0_5 : Nat) (a1 : Nat) (r : Bool) (w : World) (hr0_3 : Kd.C Kd.string w A0_3 l0_3.length l0_3) (hc0_3 : l0_3.length ≤ c0_3) (h : mean_Passes.f a0_0 a0_1 a0_2 l0_3 a0_4 a0_5 a1 = some r) :
    Calls Try.prog 86 #[.agg #[.bool a0_0, .string a0_1, .string a0_2, .slice A0_3 l0_3.length c0_3, .int .i8 a0_4, .float .f64 a0_5], .float .f64 a1] w fun e w' => e = .returned (.bool r) ∧ Below w.heap.size w w' := by
  have hu78 := Try.underlying78
  have HR0_3 := Aside0.mk hr0_3
  have HC0_3 := Aside0.mk hc0_3
  clear hr0_3 hc0_3
  have HB := Aside0.mk (Below.refl w.heap.size w)
  have H : (if a0_4 = 0 then (some true) else (if a0_4 = 1 then (some (flt_ge a1 a0_5)) else (if a0_4 = 2 then (some (flt_lt a1 a0_5)) else (some false)))) = some r := h
  clear h
  by_cases c3 : a0_4 = 0
  · rw [if_pos c3] at H
    have c3b0 : (a0_4 == 0) = true := beq_iff_eq.mpr c3
    have c3b1 : (a0_4 != 0) = false := bne_eq_false_iff_eq.mpr c3
    clear c3
    obtain rfl := Option.some.inj H
    go_enter Try.func86, Try.ntmps86
    go_wp2_with (first | ((with_reducible refine gate_dst (N := 2) rfl ?_); refine box_event ?hg (N := 2) ?hd (cs := #[.bool a0_0, .string a0_1, .string a0_2, .slice A0_3 l0_3.length c0_3, .int .i8 a0_4, .float .f64 a0_5]) (t := 78) ?hr ?_; (case hd => rfl); (case hg => rfl); (case hr => first | (go_simp; done) | (go_simp; rfl)); intro gb253 hg w4 hbox hb; have n0_ := Aside0.mk (below_step (by repeat (first | (with_reducible first | exact HB.out | apply below_alloc | apply pw_below_drewN | apply below_drew1) | exact HB.out)) hb); have n1_ := Aside0.mk (hbox); have n2_ := Aside0.mk ((by rw [hg]; exact (below_size (by repeat (first | (with_reducible first | exact HB.out | apply below_alloc | apply pw_below_drewN | apply below_drew1) | exact HB.out))) : w.heap.size ≤ gb253)); have n3_ := Aside0.mk ((by rw [hg]; exact (below_size (by repeat (first | (with_reducible first | exact HB.out | apply below_alloc | apply pw_below_drewN | apply below_drew1) | exact HB.out))) : w.heap.size ≤ gb253)); clear HB; have HB := n0_; have BK253 := n1_; have GW253 := n2_; have GE253 := n3_; clear n0_ n1_ n2_ n3_; clear hb hbox hg; have hcz5_0 : w4.cell? ⟨gb253, 0, none⟩ = some (.bool a0_0) := (blk_cell BK253.out 0).trans rfl; have hcz5_1 : w4.cell? ⟨gb253, 1, none⟩ = some (.string a0_1) := (blk_cell BK253.out 1).trans rfl; have hcz5_2 : w4.cell? ⟨gb253, 2, none⟩ = some (.string a0_2) := (blk_cell BK253.out 2).trans rfl; have hcz5_3 : w4.cell? ⟨gb253, 3, none⟩ = some (.slice A0_3 l0_3.length c0_3) := (blk_cell BK253.out 3).trans rfl; have hcz5_4 : w4.cell? ⟨gb253, 4, none⟩ = some (.int .i8 a0_4) := (blk_cell BK253.out 4).trans rfl; have hcz5_5 : w4.cell? ⟨gb253, 5, none⟩ = some (.float .f64 a0_5) := (blk_cell BK253.out 5).trans rfl; have hfz5_0 := blk_frozen BK253.out 0; have hfz5_1 := blk_frozen BK253.out 1; have hfz5_2 := blk_frozen BK253.out 2; have hfz5_3 := blk_frozen BK253.out 3; have hfz5_4 := blk_frozen BK253.out 4; have hfz5_5 := blk_frozen BK253.out 5))
    go_ret
    exact ⟨by first | rfl | (simp [errW_none, errW_some] <;> rfl) | (simp [*, errW_none, errW_some] <;> rfl), by repeat (first | (with_reducible first | exact HB.out | apply below_alloc | apply pw_below_drewN | apply below_drew1 | refine below_set ?_ GE253.out) | exact HB.out)⟩
  · rw [if_neg c3] at H
    have c3b0 : (a0_4 == 0) = false := beq_eq_false_iff_ne.mpr c3
    have c3b1 : (a0_4 != 0) = true := bne_iff_ne.mpr c3
    by_cases c6 : a0_4 = 1
    · rw [if_pos c6] at H
      have c6b0 : (a0_4 == 1) = true := beq_iff_eq.mpr c6
      have c6b1 : (a0_4 != 1) = false := bne_eq_false_iff_eq.mpr c6
      clear c6
      obtain rfl := Option.some.inj H
      go_enter Try.func86, Try.ntmps86
      go_wp2_with (first | ((with_reducible refine gate_dst (N := 2) rfl ?_); refine box_event ?hg (N := 2) ?hd (cs := #[.bool a0_0, .string a0_1, .string a0_2, .slice A0_3 l0_3.length c0_3, .int .i8 a0_4, .float .f64 a0_5]) (t := 78) ?hr ?_; (case hd => rfl); (case hg => rfl); (case hr => first | (go_simp; done) | (go_simp; rfl)); intro gb253 hg w7 hbox hb; have n0_ := Aside0.mk (below_step (by repeat (first | (with_reducible first | exact HB.out | apply below_alloc | apply pw_below_drewN | apply below_drew1) | exact HB.out)) hb); have n1_ := Aside0.mk (hbox); have n2_ := Aside0.mk ((by rw [hg]; exact (below_size (by repeat (first | (with_reducible first | exact HB.out | apply below_alloc | apply pw_below_drewN | apply below_drew1) | exact HB.out))) : w.heap.size ≤ gb253)); have n3_ := Aside0.mk ((by rw [hg]; exact (below_size (by repeat (first | (with_reducible first | exact HB.out | apply below_alloc | apply pw_below_drewN | apply below_drew1) | exact HB.out))) : w.heap.size ≤ gb253)); clear HB; have HB := n0_; have BK253 := n1_; have GW253 := n2_; have GE253 := n3_; clear n0_ n1_ n2_ n3_; clear hb hbox hg; have hcz8_0 : w7.cell? ⟨gb253, 0, none⟩ = some (.bool a0_0) := (blk_cell BK253.out 0).trans rfl; have hcz8_1 : w7.cell? ⟨gb253, 1, none⟩ = some (.string a0_1) := (blk_cell BK253.out 1).trans rfl; have hcz8_2 : w7.cell? ⟨gb253, 2, none⟩ = some (.string a0_2) := (blk_cell BK253.out 2).trans rfl; have hcz8_3 : w7.cell? ⟨gb253, 3, none⟩ = some (.slice A0_3 l0_3.length c0_3) := (blk_cell BK253.out 3).trans rfl; have hcz8_4 : w7.cell? ⟨gb253, 4, none⟩ = some (.int .i8 a0_4) := (blk_cell BK253.out 4).trans rfl; have hcz8_5 : w7.cell? ⟨gb253, 5, none⟩ = some (.float .f64 a0_5) := (blk_cell BK253.out 5).trans rfl; have hfz8_0 := blk_frozen BK253.out 0; have hfz8_1 := blk_frozen BK253.out 1; have hfz8_2 := blk_frozen BK253.out 2; have hfz8_3 := blk_frozen BK253.out 3; have hfz8_4 := blk_frozen BK253.out 4; have hfz8_5 := blk_frozen BK253.out 5))
      go_ret
      exact ⟨by first | rfl | (simp [errW_none, errW_some] <;> rfl) | (simp [*, errW_none, errW_some] <;> rfl), by repeat (first | (with_reducible first | exact HB.out | apply below_alloc | apply pw_below_drewN | apply below_drew1 | refine below_set ?_ GE253.out) | exact HB.out)⟩
    · rw [if_neg c6] at H
      have c6b0 : (a0_4 == 1) = false := beq_eq_false_iff_ne.mpr c6
      have c6b1 : (a0_4 != 1) = true := bne_iff_ne.mpr c6
      by_cases c9 : a0_4 = 2
      · rw [if_pos c9] at H
        have c9b0 : (a0_4 == 2) = true := beq_iff_eq.mpr c9
        have c9b1 : (a0_4 != 2) = false := bne_eq_false_iff_eq.mpr c9
        clear c9
        obtain rfl := Option.some.inj H
        go_enter Try.func86, Try.ntmps86
        go_wp2_with (first | ((with_reducible refine gate_dst (N := 2) rfl ?_); refine box_event ?hg (N := 2) ?hd (cs := #[.bool a0_0, .string a0_1, .string a0_2, .slice A0_3 l0_3.length c0_3, .int .i8 a0_4, .float .f64 a0_5]) (t := 78) ?hr ?_; (case hd => rfl); (case hg => rfl); (case hr => first | (go_simp; done) | (go_simp; rfl)); intro gb253 hg w10 hbox hb; have n0_ := Aside0.mk (below_step (by repeat (first | (with_reducible first | exact HB.out | apply below_alloc | apply pw_below_drewN | apply below_drew1) | exact HB.out)) hb); have n1_ := Aside0.mk (hbox); have n2_ := Aside0.mk ((by rw [hg]; exact (below_size (by repeat (first | (with_reducible first | exact HB.out | apply below_alloc | apply pw_below_drewN | apply below_drew1) | exact HB.out))) : w.heap.size ≤ gb253)); have n3_ := Aside0.mk ((by rw [hg]; exact (below_size (by repeat (first | (with_reducible first | exact HB.out | apply below_alloc | apply pw_below_drewN | apply below_drew1) | exact HB.out))) : w.heap.size ≤ gb253)); clear HB; have HB := n0_; have BK253 := n1_; have GW253 := n2_; have GE253 := n3_; clear n0_ n1_ n2_ n3_; clear hb hbox hg; have hcz11_0 : w10.cell? ⟨gb253, 0, none⟩ = some (.bool a0_0) := (blk_cell BK253.out 0).trans rfl; have hcz11_1 : w10.cell? ⟨gb253, 1, none⟩ = some (.string a0_1) := (blk_cell BK253.out 1).trans rfl; have hcz11_2 : w10.cell? ⟨gb253, 2, none⟩ = some (.string a0_2) := (blk_cell BK253.out 2).trans rfl; have hcz11_3 : w10.cell? ⟨gb253, 3, none⟩ = some (.slice A0_3 l0_3.length c0_3) := (blk_cell BK253.out 3).trans rfl; have hcz11_4 : w10.cell? ⟨gb253, 4, none⟩ = some (.int .i8 a0_4) := (blk_cell BK253.out 4).trans rfl; have hcz11_5 : w10.cell? ⟨gb253, 5, none⟩ = some (.float .f64 a0_5) := (blk_cell BK253.out 5).trans rfl; have hfz11_0 := blk_frozen BK253.out 0; have hfz11_1 := blk_frozen BK253.out 1; have hfz11_2 := blk_frozen BK253.out 2; have hfz11_3 := blk_frozen BK253.out 3; have hfz11_4 := blk_frozen BK253.out 4; have hfz11_5 := blk_frozen BK253.out 5))
        go_ret
        exact ⟨by first | rfl | (simp [errW_none, errW_some] <;> rfl) | (simp [*, errW_none, errW_some] <;> rfl), by repeat (first | (with_reducible first | exact HB.out | apply below_alloc | apply pw_below_drewN | apply below_drew1 | refine below_set ?_ GE253.out) | exact HB.out)⟩
      · rw [if_neg c9] at H
        have c9b0 : (a0_4 == 2) = false := beq_eq_false_iff_ne.mpr c9
        have c9b1 : (a0_4 != 2) = true := bne_iff_ne.mpr c9
        obtain rfl := Option.some.inj H
        go_enter Try.func86, Try.ntmps86
        go_wp2_with (first | ((with_reducible refine gate_dst (N := 2) rfl ?_); refine box_event ?hg (N := 2) ?hd (cs := #[.bool a0_0, .string a0_1, .string a0_2, .slice A0_3 l0_3.length c0_3, .int .i8 a0_4, .float .f64 a0_5]) (t := 78) ?hr ?_; (case hd => rfl); (case hg => rfl); (case hr => first | (go_simp; done) | (go_simp; rfl)); intro gb253 hg w12 hbox hb; have n0_ := Aside0.mk (below_step (by repeat (first | (with_reducible first | exact HB.out | apply below_alloc | apply pw_below_drewN | apply below_drew1) | exact HB.out)) hb); have n1_ := Aside0.mk (hbox); have n2_ := Aside0.mk ((by rw [hg]; exact (below_size (by repeat (first | (with_reducible first | exact HB.out | apply below_alloc | apply pw_below_drewN | apply below_drew1) | exact HB.out))) : w.heap.size ≤ gb253)); have n3_ := Aside0.mk ((by rw [hg]; exact (below_size (by repeat (first | (with_reducible first | exact HB.out | apply below_alloc | apply pw_below_drewN | apply below_drew1) | exact HB.out))) : w.heap.size ≤ gb253)); clear HB; have HB := n0_; have BK253 := n1_; have GW253 := n2_; have GE253 := n3_; clear n0_ n1_ n2_ n3_; clear hb hbox hg; have hcz13_0 : w12.cell? ⟨gb253, 0, none⟩ = some (.bool a0_0) := (blk_cell BK253.out 0).trans rfl; have hcz13_1 : w12.cell? ⟨gb253, 1, none⟩ = some (.string a0_1) := (blk_cell BK253.out 1).trans rfl; have hcz13_2 : w12.cell? ⟨gb253, 2, none⟩ = some (.string a0_2) := (blk_cell BK253.out 2).trans rfl; have hcz13_3 : w12.cell? ⟨gb253, 3, none⟩ = some (.slice A0_3 l0_3.length c0_3) := (blk_cell BK253.out 3).trans rfl; have hcz13_4 : w12.cell? ⟨gb253, 4, none⟩ = some (.int .i8 a0_4) := (blk_cell BK253.out 4).trans rfl; have hcz13_5 : w12.cell? ⟨gb253, 5, none⟩ = some (.float .f64 a0_5) := (blk_cell BK253.out 5).trans rfl; have hfz13_0 := blk_frozen BK253.out 0; have hfz13_1 := blk_frozen BK253.out 1; have hfz13_2 := blk_frozen BK253.out 2; have hfz13_3 := blk_frozen BK253.out 3; have hfz13_4 := blk_frozen BK253.out 4; have hfz13_5 := blk_frozen BK253.out 5))
        go_ret
        exact ⟨by first | rfl | (simp [errW_none, errW_some] <;> rfl) | (simp [*, errW_none, errW_some] <;> rfl), by repeat (first | (with_reducible first | exact HB.out | apply below_alloc | apply pw_below_drewN | apply below_drew1 | refine below_set ?_ GE253.out) | exact HB.out)⟩

end Go.Proofs.Ythaiodklfoegiaa.PG

/- mean: a side's names, who speaks. -/
namespace Go.Proofs.Ythaiodklfoegiaa.MSide
open Go.RowKit Go.Proofs.YthaiodklfoegiaaW.PrintWords Go.Proofs.YthaiodklfoegiaaW.PrintLast Go.Proofs.YthaiodklfoegiaaW.PrintMore Go.Proofs.Ythaiodklfoegiaa.BMap Go.Proofs.Ythaiodklfoegiaa.BRow Go.Proofs.Ythaiodklfoegiaa.MLines Go.Proofs.Ythaiodklfoegiaa.MPut Go.Proofs.Ythaiodklfoegiaa.MClose Go.Proofs.Ythaiodklfoegiaa.MConcat Go.Proofs.Ythaiodklfoegiaa.MStand Go.Maps
open Go.Proofs.Ythaiodklfoegiaa Go.Proofs.Ythaiodklfoegiaa.PG Go.Proofs.YthaiodklfoegiaaF

/-- A variable that fills its block, loaded whole. -/
theorem wpList_load_blk {P : Program} {w : World} {ops : Array Oper} {rest : List Oper} {op : Oper} {a : Act} {Q : Exit → Act → World → Prop} (hgd : op.guard = none) (ty : TypeId) (x : Operand) (ho : op.op = .load ty x) (g : Nat) (hx : a.eval x = .pointer (some ⟨g, 0, none⟩))
    (cs : Array Value) (t : TypeId) (hg : w.heap[g]? = some (.cells cs t (0, 0))) (d : TypeDesc) (hu : P.underlying ty = some d) (hd : d.isRow = true) (hi : (P.info? ty).map (·.size) = some cs.size) (h : wpList P ops Q rest (a.put op.dst (.agg cs)) w) : wpList P ops Q (op :: rest) a w := by
  refine wpList_load_mid hgd ty x ho g 0 hx cs.toList d (fun j v hv => ?_) hu hd (by simpa using hi) (by simpa using h)
  rw [cell_of_row _ _ _ _ _ _ hg, Nat.zero_add, ← hv]; simp

open Classical in
set_option maxHeartbeats 2000000 in
set_option maxRecDepth 100000 in
theorem has_calls (nm : ByteArray) (tr b : Nat) (s : ByteArray) (R : ByteArray → Prop) (w : World) (hS : IsSet w b R) (hs : okS s) :
    Calls Try.prog 85 #[.agg #[.string nm, .float .f64 tr, .map (some b)], .string s] w fun e w' => e = .returned (.bool (decide (R s))) ∧ Below w.heap.size w w' := by
  obtain ⟨f, n, hM, hf⟩ := hS
  have hlk := (hM.alloc (.cells #[.string nm, .float .f64 tr, .map (some b)] 95)).lookup str_key Try.underlying93 (z121 _) hs true
  have hz : ∀ w, (zeroValue 121).run Try.prog w = .ok (.agg #[]) w := z121
  have hu := Try.underlying121
  have hr : (f s).isSome = decide (R s) := by rw [Bool.eq_iff_iff, decide_eq_true_iff]; exact hf s
  have hv : ((f s).map unitV).getD (.agg #[]) = .agg #[] := by cases f s <;> rfl
  rw [hv, hr] at hlk
  simp only [if_true] at hlk
  clear hM hf hr hv
  go_enter Try.func85, Try.ntmps85
  go_wp2
  go_ret
  exact ⟨rfl, by repeat (first | exact Below.refl _ _ | refine below_alloc ?_ _)⟩

/-- What Passes says. -/
def passB (r : S78) (tr : Nat) : Bool := if r.f4 = 0 then true else if r.f4 = 1 then flt_ge tr r.f5 else if r.f4 = 2 then flt_lt tr r.f5 else false
theorem passes_f (r : S78) (tr : Nat) : mean_Passes.f r.f0 r.f1 r.f2 r.f3 r.f4 r.f5 tr = some (passB r tr) := by
  unfold mean_Passes.f passB
  split
  · rfl
  · split
    · rfl
    · split <;> rfl
/-- A rule's value. -/
def ruleV (r : S78) (A3 : Option Addr) (c3 : Nat) : Array Value := #[.bool r.f0, .string r.f1, .string r.f2, .slice A3 r.f3.length c3, .int .i8 r.f4, .float .f64 r.f5]
theorem passes_calls (r : S78) (A3 : Option Addr) (c3 : Nat) (tr : Nat) (w : World) (h : Kd.C Kd.string w A3 r.f3.length r.f3) (hc : r.f3.length ≤ c3) :
    Calls Try.prog 86 #[.agg (ruleV r A3 c3), .float .f64 tr] w fun e w' => e = .returned (.bool (passB r tr)) ∧ Below w.heap.size w w' :=
  mean_Passes.calls r.f0 r.f1 r.f2 A3 c3 r.f3 r.f4 r.f5 tr (passB r tr) w h hc (passes_f r tr)

/-- A block that stays. -/
def Stays (w : World) (g : Nat) (cs : Array Value) (t : TypeId) : Prop := w.heap[g]? = some (.cells cs t (0, 0))
theorem Stays.below {w w1 : World} {g : Nat} {cs : Array Value} {t : TypeId} (h : Stays w g cs t) (hb : Below w.heap.size w w1) : Stays w1 g cs t := (hb.block _ (Array.getElem?_eq_some_iff.1 h).1).trans h
theorem Stays.cell {w : World} {g : Nat} {cs : Array Value} {t : TypeId} (h : Stays w g cs t) (j : Nat) : w.cell? ⟨g, j, none⟩ = cs[j]? := cell_of_row _ _ _ _ _ _ h

open Classical in
noncomputable def speaksB (r : S78) (Rs Ro : ByteArray → Prop) (tr : Nat) : Bool := decide (Rs r.f1) && (decide (Ro r.f2) && passB r tr)

def sideV (nm : ByteArray) (tr b : Nat) : Array Value := #[.string nm, .float .f64 tr, .map (some b)]
/-- speaks' variables. -/
structure Three (w W : World) (r : S78) (A3 : Option Addr) (c3 : Nat) (n1 : ByteArray) (t1 b1 : Nat) (R1 : ByteArray → Prop) (n2 : ByteArray) (t2 b2 : Nat) (R2 : ByteArray → Prop) : Prop where
  below : Below w.heap.size w W
  s0 : Stays W w.heap.size (ruleV r A3 c3) 78
  s1 : Stays W (w.heap.size + 1) (sideV n1 t1 b1) 95
  s2 : Stays W (w.heap.size + 1 + 1) (sideV n2 t2 b2) 95
  set1 : IsSet W b1 R1
  set2 : IsSet W b2 R2
  row : Kd.C Kd.string W A3 r.f3.length r.f3
theorem Three.move {w W W1 : World} {r : S78} {A3 : Option Addr} {c3 : Nat} {n1 : ByteArray} {t1 b1 : Nat} {R1 : ByteArray → Prop} {n2 : ByteArray} {t2 b2 : Nat} {R2 : ByteArray → Prop} (h : Three w W r A3 c3 n1 t1 b1 R1 n2 t2 b2 R2) (hb : Below W.heap.size W W1) : Three w W1 r A3 c3 n1 t1 b1 R1 n2 t2 b2 R2 :=
  ⟨below_then h.below h.below.size hb, h.s0.below hb, h.s1.below hb, h.s2.below hb, h.set1.below hb, h.set2.below hb, Kd.C_below h.row hb⟩
theorem i78 : (Try.prog.info? 78).map (·.size) = some 6 := by kernel_rfl
theorem has_go (nm : ByteArray) (tr b : Nat) (s : ByteArray) (R : ByteArray → Prop) (w : World) (q : Bool) (hq : (open Classical in decide (R s)) = q) (hS : IsSet w b R) (hs : okS s) :
    Calls Try.prog 85 #[.agg #[.string nm, .float .f64 tr, .map (some b)], .string s] w fun e w' => e = .returned (.bool q) ∧ Below w.heap.size w w' := by
  subst hq; exact has_calls nm tr b s R w hS hs
theorem passes_go (r : S78) (A3 : Option Addr) (c3 : Nat) (tr : Nat) (w : World) (q : Bool) (hq : passB r tr = q) (h : Kd.C Kd.string w A3 r.f3.length r.f3) (hc : r.f3.length ≤ c3) :
    Calls Try.prog 86 #[.agg #[.bool r.f0, .string r.f1, .string r.f2, .slice A3 r.f3.length c3, .int .i8 r.f4, .float .f64 r.f5], .float .f64 tr] w fun e w' => e = .returned (.bool q) ∧ Below w.heap.size w w' := by
  subst hq; exact passes_calls r A3 c3 tr w h hc

set_option maxHeartbeats 4000000 in
set_option maxRecDepth 100000 in
theorem speaks_calls (r : S78) (A3 : Option Addr) (c3 : Nat) (n1 : ByteArray) (t1 b1 : Nat) (R1 : ByteArray → Prop) (n2 : ByteArray) (t2 b2 : Nat) (R2 : ByteArray → Prop) (w : World)
    (hC : Kd.C Kd.string w A3 r.f3.length r.f3) (hc : r.f3.length ≤ c3) (h1 : IsSet w b1 R1) (h2 : IsSet w b2 R2) (o1 : okS r.f1) (o2 : okS r.f2) :
    Calls Try.prog 78 #[.agg (ruleV r A3 c3), .agg (sideV n1 t1 b1), .agg (sideV n2 t2 b2)] w fun e w' => e = .returned (.bool (speaksB r R1 R2 t1)) ∧ Below w.heap.size w w' := by
  have HCC := Aside0.mk hc
  have O1 := Aside0.mk o1
  have O2 := Aside0.mk o2
  have hT : Three w (((w.alloc (.cells (ruleV r A3 c3) 78)).alloc (.cells (sideV n1 t1 b1) 95)).alloc (.cells (sideV n2 t2 b2) 95)) r A3 c3 n1 t1 b1 R1 n2 t2 b2 R2 := by
    have hb1 : Below w.heap.size w (w.alloc (.cells (ruleV r A3 c3) 78)) := below_alloc (Below.refl _ _) _
    have hb2 := below_alloc hb1 (.cells (sideV n1 t1 b1) 95)
    have hb3 := below_alloc hb2 (.cells (sideV n2 t2 b2) 95)
    have e1 := heap_alloc_new (w.alloc (.cells (ruleV r A3 c3) 78)) (.cells (sideV n1 t1 b1) 95)
    have e2 := heap_alloc_new ((w.alloc (.cells (ruleV r A3 c3) 78)).alloc (.cells (sideV n1 t1 b1) 95)) (.cells (sideV n2 t2 b2) 95)
    rw [World.size_alloc] at e1
    rw [World.size_alloc, World.size_alloc] at e2
    exact ⟨hb3, (Below.heap_alloc _ _ _ (by simp only [World.size_alloc]; omega)).trans ((Below.heap_alloc _ _ _ (by simp only [World.size_alloc]; omega)).trans (heap_alloc_new w _)), (Below.heap_alloc _ _ _ (by simp only [World.size_alloc]; omega)).trans e1, e2, h1.below hb3, h2.below hb3, Kd.C_below hC hb3⟩
  have HT := Aside0.mk hT
  clear hC hc h1 h2 o1 o2 hT
  obtain ⟨q1, hq1⟩ : ∃ q, (open Classical in decide (R1 r.f1)) = q := ⟨_, rfl⟩
  obtain ⟨q2, hq2⟩ : ∃ q, (open Classical in decide (R2 r.f2)) = q := ⟨_, rfl⟩
  obtain ⟨q3, hq3⟩ : ∃ q, passB r t1 = q := ⟨_, rfl⟩
  have hres : speaksB r R1 R2 t1 = (q1 && (q2 && q3)) := by unfold speaksB; rw [hq1, hq2, hq3]
  rw [hres]
  have Q1 := Aside0.mk hq1
  have Q2 := Aside0.mk hq2
  have Q3 := Aside0.mk hq3
  clear hq1 hq2 hq3 hres
  have X := HT.out
  have za0 := X.s0.cell 0
  have za1 := X.s0.cell 1
  have za2 := X.s0.cell 2
  have za3 := X.s0.cell 3
  have za4 := X.s0.cell 4
  have za5 := X.s0.cell 5
  have zb0 := X.s1.cell 0
  have zd0 := X.s2.cell 0
  have zb1 := X.s1.cell 1
  have zd1 := X.s2.cell 1
  have zb2 := X.s1.cell 2
  have zd2 := X.s2.cell 2
  simp only [ruleV, sideV, List.getElem?_toArray, List.getElem?_cons_zero, List.getElem?_cons_succ] at za0 za1 za2 za3 za4 za5 zb0 zd0 zb1 zd1 zb2 zd2
  clear X
  unfold ruleV sideV at HT ⊢
  cases q1 <;> cases q2
  all_goals go_enter Try.func78, Try.ntmps78
  all_goals go_wp2_with (first | (go_at_call 85; (with_reducible refine (has_go n1 t1 b1 r.f1 R1 _ _ Q1.out HT.out.set1 O1.out).mono ?_); rintro e w' ⟨rfl, hb⟩; have X := HT.out.move hb; clear hb HT za0 za1 za2 za3 za4 za5 zb0 zd0 zb1 zd1 zb2 zd2; have za0 := X.s0.cell 0; have za1 := X.s0.cell 1; have za2 := X.s0.cell 2; have za3 := X.s0.cell 3; have za4 := X.s0.cell 4; have za5 := X.s0.cell 5; have zb0 := X.s1.cell 0; have zd0 := X.s2.cell 0; have zb1 := X.s1.cell 1; have zd1 := X.s2.cell 1; have zb2 := X.s1.cell 2; have zd2 := X.s2.cell 2; simp only [ruleV, sideV, List.getElem?_toArray, List.getElem?_cons_zero, List.getElem?_cons_succ] at za0 za1 za2 za3 za4 za5 zb0 zd0 zb1 zd1 zb2 zd2; have HT := Aside0.mk X; clear X) | (go_at_call 85; (with_reducible refine (has_go n2 t2 b2 r.f2 R2 _ _ Q2.out HT.out.set2 O2.out).mono ?_); rintro e w' ⟨rfl, hb⟩; have X := HT.out.move hb; clear hb HT za0 za1 za2 za3 za4 za5 zb0 zd0 zb1 zd1 zb2 zd2; have za0 := X.s0.cell 0; have za1 := X.s0.cell 1; have za2 := X.s0.cell 2; have za3 := X.s0.cell 3; have za4 := X.s0.cell 4; have za5 := X.s0.cell 5; have zb0 := X.s1.cell 0; have zd0 := X.s2.cell 0; have zb1 := X.s1.cell 1; have zd1 := X.s2.cell 1; have zb2 := X.s1.cell 2; have zd2 := X.s2.cell 2; simp only [ruleV, sideV, List.getElem?_toArray, List.getElem?_cons_zero, List.getElem?_cons_succ] at za0 za1 za2 za3 za4 za5 zb0 zd0 zb1 zd1 zb2 zd2; have HT := Aside0.mk X; clear X) | (go_at_call 86; (with_reducible refine (passes_go r A3 c3 t1 _ _ Q3.out HT.out.row HCC.out).mono ?_); rintro e w' ⟨rfl, hb⟩; have X := HT.out.move hb; clear hb HT za0 za1 za2 za3 za4 za5 zb0 zd0 zb1 zd1 zb2 zd2; have za0 := X.s0.cell 0; have za1 := X.s0.cell 1; have za2 := X.s0.cell 2; have za3 := X.s0.cell 3; have za4 := X.s0.cell 4; have za5 := X.s0.cell 5; have zb0 := X.s1.cell 0; have zd0 := X.s2.cell 0; have zb1 := X.s1.cell 1; have zd1 := X.s2.cell 1; have zb2 := X.s1.cell 2; have zd2 := X.s2.cell 2; simp only [ruleV, sideV, List.getElem?_toArray, List.getElem?_cons_zero, List.getElem?_cons_succ] at za0 za1 za2 za3 za4 za5 zb0 zd0 zb1 zd1 zb2 zd2; have HT := Aside0.mk X; clear X))
  all_goals go_ret
  all_goals exact ⟨rfl, HT.out.below⟩
end Go.Proofs.Ythaiodklfoegiaa.MSide

namespace Go.Proofs.Ythaiodklfoegiaa.PG
open Go.Proofs.YthaiodklfoegiaaF
attribute [local go_sem high] run_feq run_fne run_flt_lt run_flt_le run_flt_gt run_flt_ge
open Go.RowKit Go.Proofs.YthaiodklfoegiaaW.PrintWords Go.Proofs.YthaiodklfoegiaaW.PrintLast Go.Proofs.YthaiodklfoegiaaW.PrintMore
attribute [local go_sem] max2_int min2_int max_two min_two max_three min_three max_four min_four   -- for this text's walks alone
set_option linter.unusedVariables false
set_option linter.unusedSimpArgs false

/-! ### slices_Index_string_string: function 31 -/
def slices_Index_string_string.l0 : Nat → List ByteArray → ByteArray → Int → Int → Option (Int)
  | 0, _, _, _, _ => none
  | k + 1, x0, x1, x7, x8 => if x8 < x7 then (if 0 ≤ x8 then (if x8 < (x0.length : Int) then (if x1.toList = (rdOf ByteArray.empty x0 x8).toList then (some x8) else (slices_Index_string_string.l0 k x0 x1 x7 (wrap64 (x8 + 1)))) else (none)) else (none)) else (some (-1))
def slices_Index_string_string.f (k : Nat) (l0 : List ByteArray) (a1 : ByteArray) : Option (Int) := slices_Index_string_string.l0 k l0 a1 (l0.length : Int) 0
theorem slices_Index_string_string.mono_l : ∀ k, (∀ y0 y1 y2 y3, LeO (slices_Index_string_string.l0 k y0 y1 y2 y3) (slices_Index_string_string.l0 (k + 1) y0 y1 y2 y3))
  | 0 => fun _ _ _ _ r h => by simp [slices_Index_string_string.l0] at h
  | k + 1 => by
    have ih0 := slices_Index_string_string.mono_l k
    · intro y0 y1 y2 y3
      unfold slices_Index_string_string.l0
      repeat' first
      | (with_reducible exact ih0 _ _ _ _)
      | (with_reducible exact LeO.refl _)
      | (with_reducible exact LeO.none _)
      | (with_reducible refine LeO.ite ?_ ?_)
      | (with_reducible refine LeO.bind ?_ (fun _ => ?_))
      | exact ih0 _ _ _ _
      | exact LeO.none _
      | refine LeO.ite ?_ ?_
      | refine LeO.bind ?_ (fun _ => ?_)
theorem slices_Index_string_string.mono : ∀ a0 a1 k, LeO (slices_Index_string_string.f k a0 a1) (slices_Index_string_string.f (k + 1) a0 a1) := by
  intro a0 a1 k
  have ih0 := slices_Index_string_string.mono_l k
  unfold slices_Index_string_string.f
  repeat' first
      | (with_reducible exact ih0 _ _ _ _)
      | (with_reducible exact LeO.refl _)
      | (with_reducible exact LeO.none _)
      | (with_reducible refine LeO.ite ?_ ?_)
      | (with_reducible refine LeO.bind ?_ (fun _ => ?_))
      | exact ih0 _ _ _ _
      | exact LeO.none _
      | refine LeO.ite ?_ ?_
      | refine LeO.bind ?_ (fun _ => ?_)
set_option maxHeartbeats 8000000 in
set_option maxRecDepth 100000 in
theorem slices_Index_string_string.calls (k : Nat) (A0 : Option Addr) (c0 : Nat) (l0 : List ByteArray) (a1 : ByteArray) (r : Int) (w : World) (hr0 : Kd.C Kd.string w A0 l0.length l0) (hc0 : l0.length ≤ c0) (h : slices_Index_string_string.f k l0 a1 = some r) :
    Calls Try.prog 31 #[.slice A0 l0.length c0, .string a1] w fun e w' => e = .returned (.int .i64 r) ∧ Drawn0 w w' := by
  have HR0 := Aside0.mk hr0
  have HC0 := Aside0.mk hc0
  clear hr0 hc0
  have H : (slices_Index_string_string.l0 k l0 a1 (l0.length : Int) 0) = some r := h
  clear h
  have H' := Aside0.mk H
  clear H
  go_enter Try.func31, Try.ntmps31
  go_wp2
  go_loopg [8] k (fun kq v8 w' => ∃ (x8_1 : Int), v8 = .int .i64 x8_1 ∧ Aside0 (slices_Index_string_string.l0 kq l0 a1 (l0.length : Int) x8_1 = some r) ∧ Aside0 (kq ≤ k) ∧ Drawn0 w w')
  case atStart => exact ⟨(0), (by first | rfl | (simp; done) | (simp [*]; done)), H', ⟨Nat.le_refl _⟩, by repeat (first | exact Drawn0.refl _ | apply Drawn0.step)⟩
  case round =>
    clear H'
    try clear p2
    obtain ⟨x8_1, rfl, HA, HK1, ⟨m1, rfl⟩⟩ := hrel
    cases gk with
    | zero => exact absurd HA.out (by simp [slices_Index_string_string.l0])
    | succ k1 =>
      have H := HA.out
      clear HA
      simp only [slices_Index_string_string.l0] at H
      by_cases c3 : x8_1 < (l0.length : Int)
      · rw [if_pos c3] at H
        have c3b0 : decide (x8_1 < (l0.length : Int)) = true := decide_eq_true c3
        clear c3
        by_cases c4 : 0 ≤ x8_1
        · rw [if_pos c4] at H
          have c4b0 : decide (0 ≤ x8_1) = true := decide_eq_true c4
          clear c4
          by_cases c5 : x8_1 < (l0.length : Int)
          · rw [if_pos c5] at H
            have c5b0 : decide (x8_1 < (l0.length : Int)) = true := decide_eq_true c5
            clear c5
            by_cases c6 : a1.toList = (rdOf ByteArray.empty l0 x8_1).toList
            · rw [if_pos c6] at H
              have c6b0 : (a1.toList == (rdOf ByteArray.empty l0 x8_1).toList) = true := beq_iff_eq.mpr c6
              have c6b1 : (a1.toList != (rdOf ByteArray.empty l0 x8_1).toList) = false := bne_eq_false_iff_eq.mpr c6
              clear c6
              obtain rfl := Option.some.inj H
              have p101 : 0 ≤ (x8_1 : Int) := of_decide_eq_true (by first | (with_reducible assumption) | assumption)
              have q101 : x8_1 < (l0.length : Int) := of_decide_eq_true (by first | (with_reducible assumption) | assumption)
              obtain ⟨ad101, e101, hx101_0⟩ := Kd.at_string HR0.out x8_1 p101 q101
              cases e101
              replace p101 := eq_true p101
              replace q101 := eq_true q101
              go_wp2
              go_ret
              exact ⟨by first | rfl | (simp; done) | (simp [*]; done), by repeat (first | exact Drawn0.refl _ | apply Drawn0.step)⟩
            · rw [if_neg c6] at H
              have c6b0 : (a1.toList == (rdOf ByteArray.empty l0 x8_1).toList) = false := beq_eq_false_iff_ne.mpr c6
              have c6b1 : (a1.toList != (rdOf ByteArray.empty l0 x8_1).toList) = true := bne_iff_ne.mpr c6
              have H' := Aside0.mk H
              clear H
              have p101 : 0 ≤ (x8_1 : Int) := of_decide_eq_true (by first | (with_reducible assumption) | assumption)
              have q101 : x8_1 < (l0.length : Int) := of_decide_eq_true (by first | (with_reducible assumption) | assumption)
              obtain ⟨ad101, e101, hx101_0⟩ := Kd.at_string HR0.out x8_1 p101 q101
              cases e101
              replace p101 := eq_true p101
              replace q101 := eq_true q101
              go_wp2
              go_roundg k1
              case measure => have := HK1.out; omega
              case rel => exact ⟨(wrap64 (x8_1 + 1)), (by first | rfl | (simp; done) | (simp [*]; done)), H', ⟨by have := HK1.out; omega⟩, by repeat (first | exact Drawn0.refl _ | apply Drawn0.step)⟩
          · rw [if_neg c5] at H
            exact absurd H (by simp)
        · rw [if_neg c4] at H
          exact absurd H (by simp)
      · rw [if_neg c3] at H
        have c3b0 : decide (x8_1 < (l0.length : Int)) = false := decide_eq_false c3
        clear c3
        obtain rfl := Option.some.inj H
        go_wp2
        go_ret
        exact ⟨by first | rfl | (simp; done) | (simp [*]; done), by repeat (first | exact Drawn0.refl _ | apply Drawn0.step)⟩

end Go.Proofs.Ythaiodklfoegiaa.PG

namespace Go.Proofs.Ythaiodklfoegiaa.PG
open Go.Proofs.YthaiodklfoegiaaF
attribute [local go_sem high] run_feq run_fne run_flt_lt run_flt_le run_flt_gt run_flt_ge
open Go.RowKit Go.Proofs.YthaiodklfoegiaaW.PrintWords Go.Proofs.YthaiodklfoegiaaW.PrintLast Go.Proofs.YthaiodklfoegiaaW.PrintMore
attribute [local go_sem] max2_int min2_int max_two min_two max_three min_three max_four min_four   -- for this text's walks alone
set_option linter.unusedVariables false
set_option linter.unusedSimpArgs false

/-! ### slices_Contains_string_string: function 62 -/
def slices_Contains_string_string.f (k : Nat) (l0 : List ByteArray) (a1 : ByteArray) : Option (Bool) := (slices_Index_string_string.f k l0 a1).bind fun t102 => (some (decide (t102 ≥ 0)))
theorem slices_Contains_string_string.mono : ∀ a0 a1 k, LeO (slices_Contains_string_string.f k a0 a1) (slices_Contains_string_string.f (k + 1) a0 a1) := by
  intro a0 a1 k
  unfold slices_Contains_string_string.f
  repeat' first
      | (with_reducible exact slices_Index_string_string.mono _ _ _)
      | (with_reducible exact LeO.refl _)
      | (with_reducible exact LeO.none _)
      | (with_reducible refine LeO.ite ?_ ?_)
      | (with_reducible refine LeO.bind ?_ (fun _ => ?_))
      | exact slices_Index_string_string.mono _ _ _
      | exact LeO.none _
      | refine LeO.ite ?_ ?_
      | refine LeO.bind ?_ (fun _ => ?_)
set_option maxHeartbeats 8000000 in
set_option maxRecDepth 100000 in
theorem slices_Contains_string_string.calls (k : Nat) (A0 : Option Addr) (c0 : Nat) (l0 : List ByteArray) (a1 : ByteArray) (r : Bool) (w : World) (hr0 : Kd.C Kd.string w A0 l0.length l0) (hc0 : l0.length ≤ c0) (h : slices_Contains_string_string.f k l0 a1 = some r) :
    Calls Try.prog 62 #[.slice A0 l0.length c0, .string a1] w fun e w' => e = .returned (.bool r) ∧ Drawn0 w w' := by
  have HR0 := Aside0.mk hr0
  have HC0 := Aside0.mk hc0
  clear hr0 hc0
  have H : ((slices_Index_string_string.f k l0 a1).bind fun t102 => (some (decide (t102 ≥ 0)))) = some r := h
  clear h
  replace H := Option.bind_eq_some_iff.mp H
  obtain ⟨t102, A30, H⟩ := H
  replace H : (some (decide (t102 ≥ 0))) = some r := H
  have A3 := Aside0.mk A30
  clear A30
  obtain rfl := Option.some.inj H
  go_enter Try.func62, Try.ntmps62
  go_wp2_with (first | ((with_reducible refine gate_callee (f := 31) rfl ?_); refine goesL_ (some 7) rfl rfl Try.func31 (by kernel_rfl) rfl #[.slice A0 l0.length c0, .string a1] rfl (by (try simp only [List.map_toArray, List.map_cons, List.map_nil]); first | done | rfl | (simp only [List.length_drop, List.length_take]; rfl)) ?_; (with_reducible refine (slices_Index_string_string.calls k _ _ l0 a1 t102 _ ?side1 ?side2 A3.out).mono ?_); (case side1 => repeat (first | exact HR0.out | (with_reducible refine Kd.C_alloc ?_ _) | (with_reducible refine Kd.C_drewN ?_ _) | (with_reducible refine Kd.C_drew ?_))); (case side2 => exact HC0.out); rintro e w' ⟨rfl, ⟨nd, rfl⟩⟩; refine ⟨_, rfl, ?_⟩))
  go_ret
  exact ⟨by first | rfl | (simp; done) | (simp [*]; done), by repeat (first | exact Drawn0.refl _ | apply Drawn0.step)⟩

end Go.Proofs.Ythaiodklfoegiaa.PG

namespace Go.Proofs.Ythaiodklfoegiaa.PG
open Go.Proofs.YthaiodklfoegiaaF
attribute [local go_sem high] run_feq run_fne run_flt_lt run_flt_le run_flt_gt run_flt_ge
open Go.RowKit Go.Proofs.YthaiodklfoegiaaW.PrintWords Go.Proofs.YthaiodklfoegiaaW.PrintLast Go.Proofs.YthaiodklfoegiaaW.PrintMore
attribute [local go_sem] max2_int min2_int max_two min_two max_three min_three max_four min_four   -- for this text's walks alone
set_option linter.unusedVariables false
set_option linter.unusedSimpArgs false

/-! ### graph_once: function 33 -/
def graph_once.l0 : Nat → List ByteArray → List ByteArray → Int → Int → Option (Bool)
  | 0, _, _, _, _ => none
  | k + 1, x0, x5, x6, x7 => if x7 < x6 then (if 0 ≤ x7 then (if x7 < (x5.length : Int) then (if x7 ≤ (x0.length : Int) then ((slices_Contains_string_string.f k (x0.take (x7 : Int).toNat) (rdOf ByteArray.empty x5 x7)).bind fun t105 => (if t105 = true then (some false) else (graph_once.l0 k x0 x5 x6 (wrap64 (x7 + 1))))) else (none)) else (none)) else (none)) else (some true)
def graph_once.f (k : Nat) (l0 : List ByteArray) : Option (Bool) := graph_once.l0 k l0 l0 (l0.length : Int) 0
theorem graph_once.mono_l : ∀ k, (∀ y0 y1 y2 y3, LeO (graph_once.l0 k y0 y1 y2 y3) (graph_once.l0 (k + 1) y0 y1 y2 y3))
  | 0 => fun _ _ _ _ r h => by simp [graph_once.l0] at h
  | k + 1 => by
    have ih0 := graph_once.mono_l k
    · intro y0 y1 y2 y3
      unfold graph_once.l0
      repeat' first
      | (with_reducible exact ih0 _ _ _ _)
      | (with_reducible exact slices_Contains_string_string.mono _ _ _)
      | (with_reducible exact LeO.refl _)
      | (with_reducible exact LeO.none _)
      | (with_reducible refine LeO.ite ?_ ?_)
      | (with_reducible refine LeO.bind ?_ (fun _ => ?_))
      | exact ih0 _ _ _ _
      | exact slices_Contains_string_string.mono _ _ _
      | exact LeO.none _
      | refine LeO.ite ?_ ?_
      | refine LeO.bind ?_ (fun _ => ?_)
theorem graph_once.mono : ∀ a0 k, LeO (graph_once.f k a0) (graph_once.f (k + 1) a0) := by
  intro a0 k
  have ih0 := graph_once.mono_l k
  unfold graph_once.f
  repeat' first
      | (with_reducible exact ih0 _ _ _ _)
      | (with_reducible exact slices_Contains_string_string.mono _ _ _)
      | (with_reducible exact LeO.refl _)
      | (with_reducible exact LeO.none _)
      | (with_reducible refine LeO.ite ?_ ?_)
      | (with_reducible refine LeO.bind ?_ (fun _ => ?_))
      | exact ih0 _ _ _ _
      | exact slices_Contains_string_string.mono _ _ _
      | exact LeO.none _
      | refine LeO.ite ?_ ?_
      | refine LeO.bind ?_ (fun _ => ?_)
set_option maxHeartbeats 8000000 in
set_option maxRecDepth 100000 in
theorem graph_once.calls (k : Nat) (A0 : Option Addr) (c0 : Nat) (l0 : List ByteArray) (r : Bool) (w : World) (hr0 : Kd.C Kd.string w A0 l0.length l0) (hc0 : l0.length ≤ c0) (h : graph_once.f k l0 = some r) :
    Calls Try.prog 33 #[.slice A0 l0.length c0] w fun e w' => e = .returned (.bool r) ∧ Drawn0 w w' := by
  have HR0 := Aside0.mk hr0
  have HC0 := Aside0.mk hc0
  clear hr0 hc0
  have H : (graph_once.l0 k l0 l0 (l0.length : Int) 0) = some r := h
  clear h
  have H' := Aside0.mk H
  clear H
  go_enter Try.func33, Try.ntmps33
  go_wp2
  go_loopg [7] k (fun kq v7 w' => ∃ (x7_1 : Int), v7 = .int .i64 x7_1 ∧ Aside0 (graph_once.l0 kq l0 l0 (l0.length : Int) x7_1 = some r) ∧ Aside0 (kq ≤ k) ∧ Drawn0 w w')
  case atStart => exact ⟨(0), (by first | rfl | (simp; done) | (simp [*]; done)), H', ⟨Nat.le_refl _⟩, by repeat (first | exact Drawn0.refl _ | apply Drawn0.step)⟩
  case round =>
    clear H'
    obtain ⟨x7_1, rfl, HA, HK1, ⟨m1, rfl⟩⟩ := hrel
    cases gk with
    | zero => exact absurd HA.out (by simp [graph_once.l0])
    | succ k1 =>
      have H := HA.out
      clear HA
      simp only [graph_once.l0] at H
      by_cases c2 : x7_1 < (l0.length : Int)
      · rw [if_pos c2] at H
        have c2b0 : decide (x7_1 < (l0.length : Int)) = true := decide_eq_true c2
        clear c2
        by_cases c3 : 0 ≤ x7_1
        · rw [if_pos c3] at H
          have c3b0 : decide (0 ≤ x7_1) = true := decide_eq_true c3
          clear c3
          by_cases c4 : x7_1 < (l0.length : Int)
          · rw [if_pos c4] at H
            have c4b0 : decide (x7_1 < (l0.length : Int)) = true := decide_eq_true c4
            clear c4
            have c5b0 := eq_true (of_decide_eq_true (by first | (with_reducible assumption) | assumption) : 0 ≤ x7_1)
            by_cases c6 : x7_1 ≤ (l0.length : Int)
            · rw [if_pos c6] at H
              have c6b0 := eq_true c6
              have c6b1 : decide (x7_1 ≤ (l0.length : Int)) = true := decide_eq_true c6
              clear c6
              replace H := Option.bind_eq_some_iff.mp H
              obtain ⟨t105, A70, H⟩ := H
              replace H : (if t105 = true then (some false) else (graph_once.l0 k1 l0 l0 (l0.length : Int) (wrap64 (x7_1 + 1)))) = some r := H
              have A7 := Aside0.mk A70
              clear A70
              by_cases c8 : t105 = true
              · subst c8
                have H1 : (some false) = some r := by rw [if_pos rfl] at H; exact H
                clear H
                have H := H1
                clear H1
                obtain rfl := Option.some.inj H
                have p103 : 0 ≤ (x7_1 : Int) := of_decide_eq_true (by first | (with_reducible assumption) | assumption)
                have q103 : x7_1 < (l0.length : Int) := of_decide_eq_true (by first | (with_reducible assumption) | assumption)
                obtain ⟨ad103, e103, hx103_0⟩ := Kd.at_string HR0.out x7_1 p103 q103
                cases e103
                replace p103 := eq_true p103
                replace q103 := eq_true q103
                obtain ⟨i09, hi09, _, hsz9, _⟩ := info_parts info9
                obtain ⟨hcut9, hA9, hC9⟩ := print_take_of (P := Try.prog) Value.string (⟨#[]⟩ : ByteArray) 22 9 .i64 Try.underlying22 hi09 hsz9 (some ad103) c0 l0 x7_1 (of_decide_eq_true (by first | (with_reducible assumption) | assumption)) (of_decide_eq_true (by first | (with_reducible assumption) | assumption)) HC0.out
                have HR104 := Aside0.mk (Kd.C_of_reads (h1 := fun _ => rfl) (hA9 _ (Kd.reads_of_C HR0.out)))
                have HC104 := Aside0.mk hC9
                clear hA9 hC9 hi09 hsz9
                go_wp2_with (first | ((with_reducible refine gate_callee (f := 62) rfl ?_); refine goesL_ (some 16) rfl rfl Try.func62 (by kernel_rfl) rfl #[.slice (some ad103) (l0.take (x7_1 : Int).toNat).length c0, .string (rdOf ByteArray.empty l0 x7_1)] rfl (by (try simp only [List.map_toArray, List.map_cons, List.map_nil]); first | done | (rw [show (l0.take (x7_1 : Int).toNat).length = x7_1.toNat from (by rw [List.length_take]; have h_ : (x7_1 : Int) ≤ (l0.length : Int) := of_decide_eq_true (by first | (with_reducible assumption) | assumption); omega)] <;> rfl) | rfl | (simp only [List.length_drop, List.length_take]; rfl)) ?_; (with_reducible refine (slices_Contains_string_string.calls k1 _ _ (l0.take (x7_1 : Int).toNat) (rdOf ByteArray.empty l0 x7_1) true _ ?side1 ?side2 A7.out).mono ?_); (case side1 => repeat (first | exact HR104.out | (with_reducible refine Kd.C_alloc ?_ _) | (with_reducible refine Kd.C_drewN ?_ _) | (with_reducible refine Kd.C_drew ?_))); (case side2 => exact HC104.out); rintro e w' ⟨rfl, ⟨nd, rfl⟩⟩; refine ⟨_, rfl, ?_⟩))
                go_ret
                exact ⟨by first | rfl | (simp; done) | (simp [*]; done), by repeat (first | exact Drawn0.refl _ | apply Drawn0.step)⟩
              · replace c8 := Bool.eq_false_iff.mpr c8
                subst c8
                have H1 : (graph_once.l0 k1 l0 l0 (l0.length : Int) (wrap64 (x7_1 + 1))) = some r := by rw [if_neg (show ¬ (false = true) by decide)] at H; exact H
                clear H
                have H := H1
                clear H1
                have H' := Aside0.mk H
                clear H
                have p103 : 0 ≤ (x7_1 : Int) := of_decide_eq_true (by first | (with_reducible assumption) | assumption)
                have q103 : x7_1 < (l0.length : Int) := of_decide_eq_true (by first | (with_reducible assumption) | assumption)
                obtain ⟨ad103, e103, hx103_0⟩ := Kd.at_string HR0.out x7_1 p103 q103
                cases e103
                replace p103 := eq_true p103
                replace q103 := eq_true q103
                obtain ⟨i010, hi010, _, hsz10, _⟩ := info_parts info9
                obtain ⟨hcut10, hA10, hC10⟩ := print_take_of (P := Try.prog) Value.string (⟨#[]⟩ : ByteArray) 22 9 .i64 Try.underlying22 hi010 hsz10 (some ad103) c0 l0 x7_1 (of_decide_eq_true (by first | (with_reducible assumption) | assumption)) (of_decide_eq_true (by first | (with_reducible assumption) | assumption)) HC0.out
                have HR104 := Aside0.mk (Kd.C_of_reads (h1 := fun _ => rfl) (hA10 _ (Kd.reads_of_C HR0.out)))
                have HC104 := Aside0.mk hC10
                clear hA10 hC10 hi010 hsz10
                go_wp2_with (first | ((with_reducible refine gate_callee (f := 62) rfl ?_); refine goesL_ (some 16) rfl rfl Try.func62 (by kernel_rfl) rfl #[.slice (some ad103) (l0.take (x7_1 : Int).toNat).length c0, .string (rdOf ByteArray.empty l0 x7_1)] rfl (by (try simp only [List.map_toArray, List.map_cons, List.map_nil]); first | done | (rw [show (l0.take (x7_1 : Int).toNat).length = x7_1.toNat from (by rw [List.length_take]; have h_ : (x7_1 : Int) ≤ (l0.length : Int) := of_decide_eq_true (by first | (with_reducible assumption) | assumption); omega)] <;> rfl) | rfl | (simp only [List.length_drop, List.length_take]; rfl)) ?_; (with_reducible refine (slices_Contains_string_string.calls k1 _ _ (l0.take (x7_1 : Int).toNat) (rdOf ByteArray.empty l0 x7_1) false _ ?side1 ?side2 A7.out).mono ?_); (case side1 => repeat (first | exact HR104.out | (with_reducible refine Kd.C_alloc ?_ _) | (with_reducible refine Kd.C_drewN ?_ _) | (with_reducible refine Kd.C_drew ?_))); (case side2 => exact HC104.out); rintro e w' ⟨rfl, ⟨nd, rfl⟩⟩; refine ⟨_, rfl, ?_⟩))
                go_roundg k1
                case measure => have := HK1.out; omega
                case rel => exact ⟨(wrap64 (x7_1 + 1)), (by first | rfl | (simp; done) | (simp [*]; done)), H', ⟨by have := HK1.out; omega⟩, by repeat (first | exact Drawn0.refl _ | apply Drawn0.step)⟩
            · rw [if_neg c6] at H
              exact absurd H (by simp)
          · rw [if_neg c4] at H
            exact absurd H (by simp)
        · rw [if_neg c3] at H
          exact absurd H (by simp)
      · rw [if_neg c2] at H
        have c2b0 : decide (x7_1 < (l0.length : Int)) = false := decide_eq_false c2
        clear c2
        obtain rfl := Option.some.inj H
        go_wp2
        go_ret
        exact ⟨by first | rfl | (simp; done) | (simp [*]; done), by repeat (first | exact Drawn0.refl _ | apply Drawn0.step)⟩

end Go.Proofs.Ythaiodklfoegiaa.PG

/- The plain side of Valid: what the printed functions (once, counted, the document's Valid) come to, in plain words over lists. -/
namespace Go.Proofs.Ythaiodklfoegiaa.VPure
open Go.RowKit Go.Proofs.Ythaiodklfoegiaa.PG Go.Proofs.YthaiodklfoegiaaW.PrintWords Go.Proofs.YthaiodklfoegiaaW.PrintMore

theorem w64 {i : Int} (h0 : -9223372036854775808 ≤ i) (h1 : i ≤ 9223372036854775807) : wrap64 i = i := by unfold wrap64; omega
theorem w64n {n m : Nat} (h : n < m) (hm : m ≤ 9223372036854775807) : wrap64 ((n : Int) + 1) = ((n + 1 : Nat) : Int) := by unfold wrap64; omega
theorem rdOf_get {α : Type} (d : α) (l : List α) (n : Nat) (h : n < l.length) : rdOf d l (n : Int) = l[n] := by simp [rdOf, h]
theorem rd_get (l : List Int) (n : Nat) (h : n < l.length) : rd l (n : Int) = l[n] := by simp [rd, h]
theorem rd_L3_get (l : List (List Int)) (n : Nat) (h : n < l.length) : rd_L3 l (n : Int) = l[n] := by simp [rd_L3, h]

/-- A list of texts, by their bytes. -/
def nm (l : List ByteArray) : List (List UInt8) := l.map ByteArray.toList

def pos : List ByteArray → ByteArray → Nat → Int
  | [], _, _ => -1
  | x :: r, s, n => if x.toList = s.toList then n else pos r s (n + 1)
theorem pos_range : ∀ (l : List ByteArray) (s : ByteArray) (n : Nat), pos l s n = -1 ∨ ((n : Int) ≤ pos l s n ∧ pos l s n < n + l.length)
  | [], _, _ => .inl rfl
  | x :: r, s, n => by
    simp only [pos]
    split
    · right; simp; omega
    · rcases pos_range r s (n + 1) with h | h
      · exact .inl h
      · right; simp at h ⊢; omega
theorem pos_mem : ∀ (l : List ByteArray) (s : ByteArray) (n : Nat), 0 ≤ pos l s n ↔ s.toList ∈ nm l
  | [], s, n => by simp [pos, nm]
  | x :: r, s, n => by
    simp only [pos, nm, List.map_cons, List.mem_cons]
    split
    · rename_i h; simp [h]
    · rename_i h
      rw [pos_mem r s (n + 1)]
      simp [nm, eq_comm, h]
theorem index_ev (l : List ByteArray) (s : ByteArray) (hl : l.length ≤ 9223372036854775807) : ∀ (d n : Nat), n + d = l.length → Ev (fun k => slices_Index_string_string.l0 k l s l.length n) (pos (l.drop n) s n)
  | 0, n, h => by
    rw [List.drop_eq_nil_of_le (by omega)]
    refine Ev.step (f := fun _ => some (-1)) (fun k => ?_) (Ev.now _)
    simp only [slices_Index_string_string.l0]
    rw [if_neg (by omega)]
  | d + 1, n, h => by
    have hlt : n < l.length := by omega
    rw [List.drop_eq_getElem_cons hlt]
    simp only [pos]
    by_cases he : l[n].toList = s.toList
    · rw [if_pos he]
      refine Ev.step (f := fun _ => some (n : Int)) (fun k => ?_) (Ev.now _)
      simp only [slices_Index_string_string.l0]
      rw [if_pos (by omega), if_pos (by omega), if_pos (by omega), rdOf_get _ _ _ hlt, if_pos he.symm]
    · rw [if_neg he]
      refine Ev.step (fun k => ?_) (index_ev l s hl d (n + 1) (by omega))
      simp only [slices_Index_string_string.l0]
      rw [if_pos (by omega), if_pos (by omega), if_pos (by omega), rdOf_get _ _ _ hlt, if_neg (fun e => he e.symm), w64n hlt hl]
theorem index_f (l : List ByteArray) (s : ByteArray) (hl : l.length ≤ 9223372036854775807) : Ev (fun k => slices_Index_string_string.f k l s) (pos l s 0) := index_ev l s hl l.length 0 (by omega)
theorem contains_f (l : List ByteArray) (s : ByteArray) (hl : l.length ≤ 9223372036854775807) : Ev (fun k => slices_Contains_string_string.f k l s) (decide (s.toList ∈ nm l)) := by
  refine Ev.bind (f := fun _ t => some (decide (t ≥ 0))) (index_f l s hl) ?_
  have : decide (pos l s 0 ≥ 0) = decide (s.toList ∈ nm l) := decide_eq_decide.2 (pos_mem l s 0)
  rw [this]
  exact Ev.now _

end Go.Proofs.Ythaiodklfoegiaa.VPure

/- A policy in a call's arguments; mean.subject, mean.object, mean.about. -/
namespace Go.Proofs.Ythaiodklfoegiaa.MPol
open Go.RowKit Go.Proofs.YthaiodklfoegiaaW.PrintWords Go.Proofs.YthaiodklfoegiaaW.PrintLast Go.Proofs.YthaiodklfoegiaaW.PrintMore Go.Proofs.Ythaiodklfoegiaa.BMap Go.Proofs.Ythaiodklfoegiaa.BRow Go.Proofs.Ythaiodklfoegiaa.MLines Go.Proofs.Ythaiodklfoegiaa.MPut Go.Proofs.Ythaiodklfoegiaa.MClose Go.Proofs.Ythaiodklfoegiaa.MConcat Go.Proofs.Ythaiodklfoegiaa.MStand Go.Proofs.Ythaiodklfoegiaa.MSide Go.Maps
open Go.Proofs.Ythaiodklfoegiaa Go.Proofs.Ythaiodklfoegiaa.PG Go.Proofs.YthaiodklfoegiaaF

/-- What a policy says. -/
structure PolD where
  acts : List ByteArray
  subs : List S54
  roles : List ByteArray
  objs : List ByteArray
  grps : List ByteArray
  mem : List S108
  inh : List S108
  par : List S108
  wit : List S108
  rules : List S78
  exc : List S28
/-- .. as a value. -/
structure Pol where
  d : PolD
  A0 : Option Addr
  c0 : Nat
  A1 : Option Addr
  c1 : Nat
  A2 : Option Addr
  c2 : Nat
  A3 : Option Addr
  c3 : Nat
  A4 : Option Addr
  c4 : Nat
  A5 : Option Addr
  c5 : Nat
  A6 : Option Addr
  c6 : Nat
  A7 : Option Addr
  c7 : Nat
  A8 : Option Addr
  c8 : Nat
  A9 : Option Addr
  c9 : Nat
  A10 : Option Addr
  c10 : Nat
def Pol.cells (p : Pol) : Array Value := #[.slice p.A0 p.d.acts.length p.c0, .slice p.A1 p.d.subs.length p.c1, .slice p.A2 p.d.roles.length p.c2, .slice p.A3 p.d.objs.length p.c3, .slice p.A4 p.d.grps.length p.c4, .slice p.A5 p.d.mem.length p.c5, .slice p.A6 p.d.inh.length p.c6, .slice p.A7 p.d.par.length p.c7, .slice p.A8 p.d.wit.length p.c8, .slice p.A9 p.d.rules.length p.c9, .slice p.A10 p.d.exc.length p.c10]
structure Pol.In (p : Pol) (w : World) : Prop where
  h0 : Kd.C Kd.string w p.A0 p.d.acts.length p.d.acts
  h1 : Kd.C k54 w p.A1 p.d.subs.length p.d.subs
  h2 : Kd.C Kd.string w p.A2 p.d.roles.length p.d.roles
  h3 : Kd.C Kd.string w p.A3 p.d.objs.length p.d.objs
  h4 : Kd.C Kd.string w p.A4 p.d.grps.length p.d.grps
  h5 : Kd.C k108 w p.A5 p.d.mem.length p.d.mem
  h6 : Kd.C k108 w p.A6 p.d.inh.length p.d.inh
  h7 : Kd.C k108 w p.A7 p.d.par.length p.d.par
  h8 : Kd.C k108 w p.A8 p.d.wit.length p.d.wit
  h9 : Kd.C k78 w p.A9 p.d.rules.length p.d.rules
  h10 : Kd.C k28 w p.A10 p.d.exc.length p.d.exc
  l0 : p.d.acts.length ≤ p.c0
  l1 : p.d.subs.length ≤ p.c1
  l2 : p.d.roles.length ≤ p.c2
  l3 : p.d.objs.length ≤ p.c3
  l4 : p.d.grps.length ≤ p.c4
  l5 : p.d.mem.length ≤ p.c5
  l6 : p.d.inh.length ≤ p.c6
  l7 : p.d.par.length ≤ p.c7
  l8 : p.d.wit.length ≤ p.c8
  l9 : p.d.rules.length ≤ p.c9
  l10 : p.d.exc.length ≤ p.c10
theorem Pol.In.below {p : Pol} {w w1 : World} (h : p.In w) (hb : Below w.heap.size w w1) : p.In w1 :=
  ⟨Kd.C_below h.h0 hb, Kd.C_below h.h1 hb, Kd.C_below h.h2 hb, Kd.C_below h.h3 hb, Kd.C_below h.h4 hb, Kd.C_below h.h5 hb, Kd.C_below h.h6 hb, Kd.C_below h.h7 hb, Kd.C_below h.h8 hb, Kd.C_below h.h9 hb, Kd.C_below h.h10 hb, h.l0, h.l1, h.l2, h.l3, h.l4, h.l5, h.l6, h.l7, h.l8, h.l9, h.l10⟩
/-- The names' sizes, the lists' lengths: what any that come in keep. -/
structure PolD.Ok (d : PolD) : Prop where
  subs : ∀ s ∈ d.subs, okS s.f0
  objs : ∀ s ∈ d.objs, okS s
  acts : ∀ s ∈ d.acts, okS s
  mem : ∀ q ∈ d.mem, okS q.f0 ∧ okS q.f1
  inh : ∀ q ∈ d.inh, okS q.f0 ∧ okS q.f1
  par : ∀ q ∈ d.par, okS q.f0 ∧ okS q.f1
  wit : ∀ q ∈ d.wit, okS q.f0 ∧ okS q.f1
  rules : ∀ r ∈ d.rules, okS r.f1 ∧ okS r.f2
  lmem : d.mem.length ≤ 4398046510976
  linh : d.inh.length ≤ 4398046510976
  lpar : d.par.length ≤ 4398046510976
  lwit : d.wit.length ≤ 4398046510976
  lrules : d.rules.length ≤ 1759218604390

def PolD.who (d : PolD) (s : ByteArray) : ByteArray → Prop := MClose.Reach (d.mem ++ d.inh) s
def PolD.what (d : PolD) (o : ByteArray) : ByteArray → Prop := MClose.Reach (d.par ++ d.wit) o
/-- The first subject of a name: its trust. -/
def PolD.trust (d : PolD) (s : ByteArray) : Option Nat := (d.subs.find? (fun x => decide (x.f0 = s))).map (·.f1)

/-- No side. -/
def noneV : Array Value := #[.string ⟨#[]⟩, .float .f64 0, .map none]

/-! ### A variable that is written whole -/
section
variable {w w0 : World} {g g' t t' : Nat} {cs vs : Array Value}
theorem Stays.there (h : Stays w g cs t) : w.there g 0 cs.size := fun j hj => by
  rw [h.cell, Nat.zero_add]
  exact ⟨by simp [hj], MPut.frozen_of_row h _⟩
theorem setCells_var (h : Stays w g cs t) (hl : vs.size = cs.size) : Stays (w.setCells g 0 vs.toList) g vs t := by
  obtain ⟨cur, h3, h4, h5⟩ := setCells_row vs.toList 0 w _ h (by simp [hl])
  have hcur : cur = vs := by
    apply Array.ext'
    rw [h5]
    simp [hl]
  rw [hcur] at h3
  exact h3
theorem setCells_stays (h : Stays w g' cs t) (hne : g' ≠ g) (l : List Value) : Stays (w.setCells g 0 l) g' cs t := (setCells_far l 0 g' hne).trans h
theorem setCells_below {B : Nat} (h : Below B w0 w) (hg : B ≤ g) (l : List Value) : Below B w0 (w.setCells g 0 l) := by
  obtain ⟨s1, s2, s3, s4⟩ := setCells_same g l 0 w
  exact ⟨s1.trans h.os, s2.trans h.tape, s3.trans h.output, by rw [s4]; exact h.size, fun k hk => (setCells_far l 0 k (by omega)).trans (h.block k hk)⟩
theorem setCells_set {b : Nat} {R : ByteArray → Prop} (h : IsSet w b R) (hne : b ≠ g) (l : List Value) : IsSet (w.setCells g 0 l) b R := by
  obtain ⟨f, n, hM, hf⟩ := h
  exact ⟨f, n, hM.move (setCells_far l 0 b hne), hf⟩
theorem wpList_store_var {P : Program} {ops : Array Oper} {rest : List Oper} {op : Oper} {a : Act} {Q : Exit → Act → World → Prop} (hgd : op.guard = none) (ty : TypeId) (x y : Operand) (ho : op.op = .store ty x y) (g : Nat) (L : Array Value)
    (hx : a.eval x = .pointer (some ⟨g, 0, none⟩)) (hy : a.eval y = .agg L) (hS : Stays w g cs t) (hl : L.size = cs.size) (hi : (P.info? ty).map (·.size) = some L.size) (h1 : L.all (·.oneCell') = true)
    (h : wpList P ops Q rest (a.put op.dst undef) (w.setCells g 0 L.toList)) : wpList P ops Q (op :: rest) a w :=
  wpList_store_mid hgd ty x y ho g 0 L hx hy (by rw [hl]; exact Stays.there hS) hi h1 h
end

theorem mem_nm (l : List ByteArray) (s : ByteArray) : s.toList ∈ VPure.nm l ↔ s ∈ l := by
  unfold VPure.nm
  rw [List.mem_map]
  constructor
  · rintro ⟨x, hx, e⟩
    rw [ByteArray.toList_eq, ByteArray.toList_eq] at e
    rw [← ByteArray.ext (Array.toList_inj.mp e)]
    exact hx
  · intro h; exact ⟨s, h, rfl⟩
open Classical in
theorem contains_go (A : Option Addr) (c : Nat) (l : List ByteArray) (s : ByteArray) (w : World) (q : Bool) (hq : decide (s ∈ l) = q) (hC : Kd.C Kd.string w A l.length l) (hc : l.length ≤ c) :
    Calls Try.prog 62 #[.slice A l.length c, .string s] w fun e w' => e = .returned (.bool q) ∧ Below w.heap.size w w' := by
  obtain ⟨k, hk⟩ := (VPure.contains_f l s hC.2.1).rounds
  refine (slices_Contains_string_string.calls k A c l s _ w hC hc hk).mono ?_
  rintro e w' ⟨rfl, hd⟩
  refine ⟨?_, hd.below⟩
  rw [← hq]
  have := mem_nm l s
  congr 2
  rw [Bool.eq_iff_iff, decide_eq_true_iff, decide_eq_true_iff]
  exact this

/-- The variables of subject, object: the policy, the answer's side. -/
structure Two (p : Pol) (w W : World) (v : Array Value) : Prop where
  below : Below w.heap.size w W
  s0 : Stays W w.heap.size p.cells 39
  s1 : Stays W (w.heap.size + 1) v 95
theorem Two.move {p : Pol} {w W W1 : World} {v : Array Value} (h : Two p w W v) (hb : Below W.heap.size W W1) : Two p w W1 v := ⟨below_then h.below h.below.size hb, h.s0.below hb, h.s1.below hb⟩
theorem Two.start (p : Pol) (w : World) : Two p w ((w.alloc (.cells p.cells 39)).alloc (.cells noneV 95)) noneV := by
  have hb1 : Below w.heap.size w (w.alloc (.cells p.cells 39)) := below_alloc (Below.refl _ _) _
  have e1 := heap_alloc_new (w.alloc (.cells p.cells 39)) (.cells noneV 95)
  rw [World.size_alloc] at e1
  exact ⟨below_alloc hb1 _, (Below.heap_alloc _ _ _ (by simp only [World.size_alloc]; omega)).trans (heap_alloc_new w _), e1⟩

/-- An answer's side: of a name, or none. -/
def SideOf (W : World) (q : Bool) (v : Array Value) (name : ByteArray) (trust : Nat) (R : ByteArray → Prop) : Prop := (q = true → ∃ b, v = sideV name trust b ∧ IsSet W b R) ∧ (q = false → v = noneV)
theorem SideOf.below {W W1 : World} {q : Bool} {v : Array Value} {name : ByteArray} {trust : Nat} {R : ByteArray → Prop} (h : SideOf W q v name trust R) (hb : Below W.heap.size W W1) : SideOf W1 q v name trust R :=
  ⟨fun e => by obtain ⟨b, e1, e2⟩ := h.1 e; exact ⟨b, e1, e2.below hb⟩, h.2⟩
theorem SideOf.size {W : World} {q : Bool} {v : Array Value} {name : ByteArray} {trust : Nat} {R : ByteArray → Prop} (h : SideOf W q v name trust R) : v.size = 3 := by
  cases q with
  | true => obtain ⟨b, rfl, _⟩ := h.1 rfl; rfl
  | false => rw [h.2 rfl]; rfl
theorem SideOf.one {W : World} {q : Bool} {v : Array Value} {name : ByteArray} {trust : Nat} {R : ByteArray → Prop} (h : SideOf W q v name trust R) : v.all (·.oneCell') = true := by
  cases q with
  | true => obtain ⟨b, rfl, _⟩ := h.1 rfl; simp [sideV, Value.oneCell']
  | false => rw [h.2 rfl]; simp [noneV, Value.oneCell']

open Classical in
set_option maxHeartbeats 4000000 in
set_option maxRecDepth 100000 in
theorem object_calls (p : Pol) (o : ByteArray) (w : World) (hp : p.In w) (hd : p.d.Ok) (ho : okS o) (q : Bool) (hq : decide (o ∈ p.d.objs) = q) :
    Calls Try.prog 61 #[.agg p.cells, .string o] w fun e w' => ∃ v, e = .returned (.tuple #[.agg v, .bool q]) ∧ SideOf w' q v o 0 (p.d.what o) ∧ Below w.heap.size w w' := by
  have HP := Aside0.mk hp
  have HD := Aside0.mk hd
  have HO := Aside0.mk ho
  clear hd hp ho
  have hT := Two.start p w
  have HQ := Aside0.mk hq
  have e3 := hT.s0.cell 3
  have e7 := hT.s0.cell 7
  have e8 := hT.s0.cell 8
  simp only [Pol.cells, List.getElem?_toArray, List.getElem?_cons_zero, List.getElem?_cons_succ, noneV] at e3 e7 e8
  have HT := Aside0.mk hT
  clear hT hq
  have hz := z95
  unfold Pol.cells
  unfold Pol.cells noneV at HT
  cases q with
  | false =>
    go_enter Try.func61, Try.ntmps61
    go_wp2_with (first | (go_at_call 62; (with_reducible refine (contains_go p.A3 p.c3 p.d.objs o _ _ HQ.out (HP.out.below HT.out.below).h3 HP.out.l3).mono ?_); rintro e w' ⟨rfl, hb⟩; have HT2 := Aside0.mk (HT.out.move hb); clear hb) | ((with_reducible refine gate_store (t := 95) (p := 4) (v := .tmp 11) rfl ?_); refine wpList_store_var rfl 95 (.tmp 4) (.tmp 11) rfl (w.heap.size + 1) noneV ?hx ?hy HT2.out.s1 rfl i95 (by simp [noneV, Value.oneCell']) ?_; (case hx => rfl); (case hy => rfl)))
    (try simp only [Exit.inBlock, Exit.then])
    refine bodyPost_ret (results_ct rfl _ _ (w.heap.size + 1) 95 noneV (0, 0) _ rfl (setCells_var HT2.out.s1 rfl) Try.underlying95 rfl i95) rfl ?_
    exact ⟨noneV, rfl, ⟨fun e => (by cases e), fun _ => rfl⟩, setCells_below HT2.out.below (by omega) _⟩
  | true =>
    go_enter Try.func61, Try.ntmps61
    go_wp2_with (first | (go_at_call 62; (with_reducible refine (contains_go p.A3 p.c3 p.d.objs o _ _ HQ.out (HP.out.below HT.out.below).h3 HP.out.l3).mono ?_); rintro e w' ⟨rfl, hb⟩; have X := HT.out.move hb; clear hb e7 e8; have e7 := X.s0.cell 7; have e8 := X.s0.cell 8; simp only [Pol.cells, List.getElem?_toArray, List.getElem?_cons_zero, List.getElem?_cons_succ] at e7 e8; have HT2 := Aside0.mk X; clear X) | (go_at_call 75; (with_reducible refine (stand_calls o p.A7 p.c7 p.d.par p.A8 p.c8 p.d.wit _ (HP.out.below HT2.out.below).h7 (HP.out.below HT2.out.below).h8 HO.out (fun q hq => (List.mem_append.1 hq).elim (HD.out.par q) (HD.out.wit q)) (by have := HD.out.lpar; have := HD.out.lwit; omega)).mono ?_); rintro e w3 ⟨b, rfl, hS, hge, hb3⟩; have HT3 := Aside0.mk (HT2.out.move hb3); have HS := Aside0.mk hS; have HNE := Aside0.mk (show b ≠ w.heap.size + 1 by have := (Array.getElem?_eq_some_iff.1 HT2.out.s1).1; omega); clear hS hge hb3) | ((with_reducible refine gate_store (t := 95) (p := 4) (v := .tmp 17) rfl ?_); refine wpList_store_var rfl 95 (.tmp 4) (.tmp 17) rfl (w.heap.size + 1) (sideV o 0 b) ?hx ?hy HT3.out.s1 rfl i95 (by simp [sideV, Value.oneCell']) ?_; (case hx => rfl); (case hy => rfl)))
    (try simp only [Exit.inBlock, Exit.then])
    refine bodyPost_ret (results_ct rfl _ _ (w.heap.size + 1) 95 (sideV o 0 b) (0, 0) _ rfl (setCells_var HT3.out.s1 rfl) Try.underlying95 rfl i95) rfl ?_
    exact ⟨sideV o 0 b, rfl, ⟨fun _ => ⟨b, rfl, setCells_set HS.out HNE.out _⟩, fun e => (by cases e)⟩, setCells_below HT3.out.below (by omega) _⟩
end Go.Proofs.Ythaiodklfoegiaa.MPol

-- PRINTED BY print.sh 35421559b90ae4d0a3588c463048766b98c2df88dd9212a6774a882060cdf62d: not written by this session
namespace Go.Proofs.Ythaiodklfoegiaa.PGraphDecide
open Go.RowKit Go.Proofs.YthaiodklfoegiaaW.PrintWords Go.Proofs.YthaiodklfoegiaaW.PrintLast Go.Proofs.YthaiodklfoegiaaW.PrintMore
attribute [local go_sem] max2_int min2_int max_two min_two max_three min_three max_four min_four   -- for this text's walks alone
set_option linter.unusedVariables false
set_option linter.unusedSimpArgs false



def errW : Option Int → Value
  | none => .nilIface
  | some c => .iface 0 (.int .i64 c)
theorem errW_none : errW none = .nilIface := rfl
theorem errW_some (c : Int) : errW (some c) = .iface 0 (.int .i64 c) := rfl

-- the values' own types
def rd_L3 (xs : List (List Int)) (i : Int) : (List Int) := xs.getD i.toNat ([] : List Int)
theorem at_L3 {w : World} {A : Option Addr} {n : Nat} {xs : List (List Int)} (h : Kd.C (Kd.slice 31 (Kd.int .u16)) w A n xs) (i : Int) (h0 : 0 ≤ i) (h1 : i < n) : ∃ ad A0 c0, A = some ad ∧ w.cell? (ad.add i.toNat) = some (.slice A0 (rd_L3 xs i).length c0) ∧ (rd_L3 xs i).length ≤ c0 ∧ (Kd.int .u16).C w A0 (rd_L3 xs i).length (rd_L3 xs i) := by
  obtain ⟨ad, c, e, _, hK, hc0⟩ := Kd.C_get h ([] : List Int) i h0 h1
  have hc : ∀ j u, c[j]? = some u → w.cell? (ad.add (i.toNat * 1 + j)) = some u := hc0
  obtain ⟨A0, c0, rfl, l0, g0⟩ := hK
  exact ⟨ad, A0, c0, e, by have hq := hc 0 _ rfl; rwa [Nat.mul_one, Nat.add_zero] at hq, l0, g0⟩

end Go.Proofs.Ythaiodklfoegiaa.PGraphDecide
