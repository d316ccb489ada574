/- What an argument of a law reads as: out of the statement's own reading of it, a plain Lean value of its kind (for every type of bools, whole numbers, floats, strings, slices and structs), with the bounds that the statement lays upon it. -/
import Derived.Test.YthaiodklfoegiaaRows
import Derived.Test.YthaiodklfoegiaaWWords
import Derived.Deep.Slices
import Derived.ChangeArms
namespace Go.Proofs.Ythaiodklfoegiaa.Opens
open Go.RowKit Go.Deep Go.Proofs.YthaiodklfoegiaaW.PrintWords

/-- good: what holds of each value; m: how much it bears (at most the reading's bulk). -/
structure Opens {α : Type} (P : Program) (T : TypeId) (d : Kd α) (good : α → Prop) (m : α → Nat) : Prop where
  out : ∀ {H : Type} (enc : TypeId × Value → H) (w : World) (fuel : Nat) (cs : List Value) (x : DataW H × List MemPlace), DataW.trod enc P w 0 (fun _ => true) true fuel T cs = some x →
    (DataW.weights P T x.1).all (· ≤ reachBytes) = true → ∃ a, d.K w a cs ∧ good a ∧ m a ≤ Rows.uptoBulk x.1

section
variable {P : Program} {T e : TypeId}
theorem opens_int {k : IntKind} (h : P.underlying T = some (.int k)) : Opens P T (Kd.int k) (fun x => (Lit.int k x).wf = true) (fun _ => 1) := ⟨fun enc w fuel cs x hx _ => by
  obtain ⟨n, rfl, rfl, hw⟩ := DataW.trod_int h hx
  exact ⟨n, rfl, hw, by simp [Rows.uptoBulk]⟩⟩
theorem opens_bool (h : P.underlying T = some .bool) : Opens P T Kd.bool (fun _ => True) (fun _ => 1) := ⟨fun enc w fuel cs x hx _ => by
  obtain ⟨n, rfl, rfl⟩ := DataW.trod_bool h hx
  exact ⟨n, rfl, trivial, by simp [Rows.uptoBulk]⟩⟩
theorem opens_string (h : P.underlying T = some .string) : Opens P T Kd.string (fun s => s.size ≤ 140737488351232) (fun s => s.size + 1) := ⟨fun enc w fuel cs x hx hs => by
  obtain ⟨s, rfl, rfl, hw⟩ := DataW.trod_string h hx
  refine ⟨s, rfl, ?_, ?_⟩
  · simp [DataW.weights, reachBytes] at hs
    exact of_decide_eq_true hs
  · show s.size + 1 ≤ s.data.toList.length + 1
    rw [Array.length_toList]; exact Nat.le_refl _⟩
/-- A float, by its bits. -/
def flt : Kd Nat := Kd.scalar (Value.float .f64) (fun _ => rfl)
theorem opens_float (h : P.underlying T = some (.float .f64)) : Opens P T flt (fun x => (Lit.float .f64 x).wf = true) (fun _ => 1) := ⟨fun enc w fuel cs x hx _ => by
  cases fuel with
  | zero => simp [DataW.trod] at hx
  | succ n =>
    unfold DataW.trod at hx
    rw [h] at hx
    split at hx <;> simp_all
    obtain ⟨⟨hk, hw⟩, rfl⟩ := hx
    subst_vars
    exact ⟨_, rfl, hw, by simp [Rows.uptoBulk]⟩⟩

theorem weightsAll_mem {H : Type} {P : Program} {e : TypeId} {p : Nat → Bool} : ∀ {l : List (DataW H)}, (DataW.weightsAll P e l).all p = true → ∀ x ∈ l, (DataW.weights P e x).all p = true
  | [], _, x, hx => by cases hx
  | y :: r, h, x, hx => by
    simp only [DataW.weightsAll, List.all_append, Bool.and_eq_true] at h
    rcases List.mem_cons.1 hx with rfl | hx
    · exact h.1
    · exact weightsAll_mem h.2 x hx

/-- How much a list bears. -/
def all {α : Type} (m : α → Nat) (l : List α) : Nat := (l.map m).sum + 1

theorem bulkAll_le {H α : Type} {m : α → Nat} : ∀ {l : List (DataW H)} {r : List α}, l.length = r.length → (∀ (i : Nat) (x : DataW H) (a : α), l[i]? = some x → r[i]? = some a → m a ≤ Rows.uptoBulk x) → (r.map m).sum ≤ Rows.uptoBulkAll l
  | [], [], _, _ => by simp [Rows.uptoBulkAll]
  | x :: l, a :: r, hl, h => by
    have h0 := h 0 x a rfl rfl
    have h1 := bulkAll_le (m := m) (l := l) (r := r) (by simpa using hl) (fun i x a hx ha => h (i + 1) x a (by simpa using hx) (by simpa using ha))
    simp only [List.map_cons, List.sum_cons, Rows.uptoBulkAll]
    omega

theorem opens_slice {α : Type} {d : Kd α} {good : α → Prop} {m : α → Nat} (E : Nat) (ht : P.underlying T = some (.slice e)) (hsz : P.cellsOf e = d.sz) (h : Opens P e d good m) :
    Opens P T (Kd.slice E d) (fun l => l.length ≤ 9223372036854775807 ∧ l.length * P.bytesOf e ≤ 140737488351232 ∧ ∀ x ∈ l, good x) (all m) := ⟨fun enc w fuel cs x hx hs => by
  rcases open_slice ht hx with ⟨rfl, rfl⟩ | ⟨a, len, cap, m', n, D, Pl, rfl, _, hl, hm, hmm, rfl, hel⟩
  · exact ⟨[], ⟨none, 0, rfl, Nat.le_refl _, rfl, by simp, fun hh => absurd hh (Nat.lt_irrefl 0)⟩, ⟨by simp, by simp, by simp⟩, by simp [all, Rows.uptoBulk]⟩
  · have hmm' : m' = cap := by simpa using hmm
    subst hmm'
    simp only [DataW.weights, ht, List.all_cons, List.all_append, Bool.and_eq_true] at hs
    obtain ⟨hs0, hs1, _⟩ := hs
    have hw : ∀ i, i < len → ∃ v, (∃ cs', w.cells? 0 (a.add (i * P.cellsOf e)) (P.cellsOf e) = some cs' ∧ d.K w v cs') ∧ good v ∧ m v ≤ Rows.uptoBulk (D i) := by
      intro i hi
      obtain ⟨cs', h1, h2⟩ := hel i (by omega)
      have h3 := weightsAll_mem hs1 (D i) (List.mem_map.2 ⟨i, List.mem_range.2 hi, rfl⟩)
      obtain ⟨v, hv, hg, hb⟩ := h.out enc w n cs' (D i, Pl i) h2 h3
      exact ⟨v, ⟨cs', h1, hv⟩, hg, hb⟩
    have hlen63 : len ≤ 9223372036854775807 := by simp only [maxLen] at hm; omega
    have hbytes : len * P.bytesOf e ≤ 140737488351232 := by
      simp only [List.length_map, List.length_range, reachBytes, decide_eq_true_eq] at hs0
      exact Nat.le_trans (Nat.mul_le_mul_right _ (by omega)) hs0
    rcases Nat.eq_zero_or_pos len with rfl | hp
    · exact ⟨[], ⟨some a, m', rfl, Nat.zero_le _, rfl, by simp, fun hh => absurd hh (Nat.lt_irrefl 0)⟩, ⟨by simp, by simp, by simp⟩, by simp [all, Rows.uptoBulk, Rows.uptoBulkAll]⟩
    · have : Nonempty α := let ⟨v, _⟩ := hw 0 hp; ⟨v⟩
      have : Inhabited α := Classical.inhabited_of_nonempty this
      obtain ⟨V, hV⟩ := choose_lt (α := α) hw
      have hget : ∀ j v, ((List.range len).map V)[j]? = some v → j < len ∧ v = V j := by
        intro j v hj
        have hlt := (List.getElem?_eq_some_iff.1 hj).1
        simp at hlt
        simp [hlt] at hj
        exact ⟨hlt, hj.symm⟩
      refine ⟨(List.range len).map V, ⟨some a, m', by simp, by simpa using hl, by simp, by simpa using hlen63, fun _ => ⟨a, rfl, ?_⟩⟩, ⟨by simpa using hlen63, by simpa using hbytes, ?_⟩, ?_⟩
      · intro j v hj
        obtain ⟨hlt, rfl⟩ := hget j v hj
        obtain ⟨cs', h1, h2⟩ := (hV j hlt).1
        obtain ⟨_, h3, h4⟩ := World.cells?_some h1
        refine ⟨cs', by rw [h3, hsz], h2, fun i u hu => ?_⟩
        have hi : i < P.cellsOf e := by rw [← h3]; exact (List.getElem?_eq_some_iff.1 hu).1
        rw [← hsz, ← Go.Deep.add_add, h4 i hi, hu]
      · intro v hv
        obtain ⟨j, hj, rfl⟩ := List.mem_map.1 hv
        exact (hV j (List.mem_range.1 hj)).2.1
      · show ((List.range len).map V |>.map m).sum + 1 ≤ Rows.uptoBulkAll _ + Rows.uptoBulkAll _ + 1
        have := bulkAll_le (m := m) (l := (List.range len).map D) (r := (List.range len).map V) (by simp) (fun i x b hx hb => by
          obtain ⟨hlt, rfl⟩ := hget i b hb
          have hxD : x = D i := by simp [hlt] at hx; exact hx.symm
          subst hxD
          exact (hV i hlt).2.2)
        omega⟩

/-- The fields of a struct from the offset o on. -/
structure Fields {α : Type} (P : Program) (fs : List Field) (o : Nat) (d : Kd α) (good : α → Prop) (m : α → Nat) : Prop where
  out : ∀ {H : Type} (enc : TypeId × Value → H) (w : World) (n : Nat) (cs : List Value) (xs : List (DataW H × List MemPlace)), xs.length = fs.length →
    (∀ (i : Nat) (f : Field), fs[i]? = some f → DataW.trod enc P w 0 (fun _ => true) true n f.type ((cs.drop f.offset).take (P.cellsOf f.type)) = xs[i]?) →
    (DataW.weightsEach P (fs.map (·.type)) (xs.map (·.1))).all (· ≤ reachBytes) = true → ∃ a, d.K w a ((cs.drop o).take d.sz) ∧ good a ∧ m a ≤ Rows.uptoBulkAll (xs.map (·.1))
theorem fields_one {α : Type} {d : Kd α} {good : α → Prop} {m : α → Nat} (f : Field) (hsz : P.cellsOf f.type = d.sz) (h : Opens P f.type d good m) : Fields P [f] f.offset d good m := ⟨fun enc w n cs xs hl hf hs => by
  match xs, hl with
  | [x], _ =>
    have h0 := hf 0 f rfl
    rw [hsz] at h0
    obtain ⟨a, ha, hg, hm⟩ := h.out enc w n _ x h0 (by simpa [DataW.weightsEach] using hs)
    exact ⟨a, ha, hg, by simp [Rows.uptoBulkAll]; exact hm⟩⟩
theorem fields_cons {α β : Type} {d : Kd α} {d' : Kd β} {good : α → Prop} {good' : β → Prop} {m : α → Nat} {m' : β → Nat} (f : Field) {fs : List Field} {o' : Nat} (hsz : P.cellsOf f.type = d.sz) (ho : o' = f.offset + d.sz)
    (h : Opens P f.type d good m) (h' : Fields P fs o' d' good' m') : Fields P (f :: fs) f.offset (Kd.pair d d') (fun x => good x.1 ∧ good' x.2) (fun x => m x.1 + m' x.2) := ⟨fun enc w n cs xs hl hf hs => by
  match xs, hl with
  | x :: xs, hl =>
    have h0 := hf 0 f rfl
    rw [hsz] at h0
    simp only [List.map_cons, DataW.weightsEach, List.all_append, Bool.and_eq_true] at hs
    obtain ⟨a, ha, hg, hm⟩ := h.out enc w n _ x h0 hs.1
    obtain ⟨b, hb, hg', hm'⟩ := h'.out enc w n cs xs (by simpa using hl) (fun i g hi => by simpa using hf (i + 1) g (by simpa using hi)) hs.2
    refine ⟨(a, b), ⟨_, _, ?_, ha, hb⟩, ⟨hg, hg'⟩, by simp only [List.map_cons, Rows.uptoBulkAll]; omega⟩
    show (cs.drop f.offset).take (d.sz + d'.sz) = _
    rw [List.take_add, List.drop_drop, ho]⟩
theorem opens_struct {α : Type} {d : Kd α} {good : α → Prop} {m : α → Nat} {fs : Array Field} (ht : P.underlying T = some (.struct fs)) (hsz : P.cellsOf T = d.sz) (h : Fields P fs.toList 0 d good m) :
    Opens P T d good (fun x => m x + 1) := ⟨fun enc w fuel cs x hx hs => by
  obtain ⟨xs, n, rfl, rfl, hl, hlen, hf⟩ := DataW.trod_struct ht hx
  simp only [DataW.weights, ht] at hs
  obtain ⟨a, ha, hg, hm⟩ := h.out enc w n cs xs (by simpa using hlen) (fun i f hi => hf i f (by simpa using hi)) hs
  have : (cs.drop 0).take d.sz = cs := by rw [List.drop_zero, ← hsz, ← hl, List.take_length]
  rw [this] at ha
  exact ⟨a, ha, hg, by simp only [Rows.uptoBulk]; omega⟩⟩
theorem opens_iso {α β : Type} {d : Kd α} {good : α → Prop} {m : α → Nat} (f : β → α) (g : α → β) (hfg : ∀ a, f (g a) = a) (h : Opens P T d good m) : Opens P T (Kd.iso d f) (fun b => good (f b)) (fun b => m (f b)) := ⟨fun enc w fuel cs x hx hs => by
  obtain ⟨a, ha, hg, hm⟩ := h.out enc w fuel cs x hx hs
  exact ⟨g a, by show d.K w (f (g a)) cs; rw [hfg]; exact ha, by rw [hfg]; exact hg, by rw [hfg]; exact hm⟩⟩
theorem Opens.imp {α : Type} {d : Kd α} {good good' : α → Prop} {m m' : α → Nat} (h : Opens P T d good m) (hg : ∀ a, good a → good' a) (hm : ∀ a, m' a ≤ m a) : Opens P T d good' m' := ⟨fun enc w fuel cs x hx hs => by
  obtain ⟨a, ha, h1, h2⟩ := h.out enc w fuel cs x hx hs
  exact ⟨a, ha, hg a h1, Nat.le_trans (hm a) h2⟩⟩
end
end Go.Proofs.Ythaiodklfoegiaa.Opens
