/- Maps that a call makes: a block that holds a plain finite function; what a look-up, a store, 'm[k] op= v' and len come to. For every key type that the library knows. -/
import Derived.Maps.Keyed
import Derived.Maps.Own
import Derived.OwnWalk
import Derived.Below
import Derived.Deep.Draws
namespace Go.Proofs.Ythaiodklfoegiaa.BMap
open Go.RowKit Go.Maps Go.ChangeMaps Go.MapKept
open Classical

structure KeyOk {κ : Type} (P : Program) (kT : TypeId) (kenc : κ → Value) (ok : κ → Prop) : Prop where
  law : Keyed P kT
  is : ∀ k, ok k → ∃ l, keyOf P kT (kenc k) = some l
  inj : ∀ a b, kenc a = kenc b → a = b

noncomputable def upd {κ β : Type} (f : κ → Option β) (k : κ) (v : β) : κ → Option β := fun x => if x = k then some v else f x
theorem upd_same {κ β : Type} (f : κ → Option β) (k : κ) (v : β) : upd f k v k = some v := by simp [upd]
theorem upd_other {κ β : Type} (f : κ → Option β) {k x : κ} (v : β) (h : x ≠ k) : upd f k v x = f x := by simp [upd, h]
theorem upd_upd {κ β : Type} (f : κ → Option β) (k : κ) (v v' : β) : upd (upd f k v) k v' = upd f k v' := by
  funext x
  by_cases h : x = k <;> simp [upd, h]

/-- Block b of w is a map that holds f, of n keys. -/
structure MapF {κ β : Type} (kenc : κ → Value) (venc : β → Value) (ok : κ → Prop) (w : World) (b : Nat) (f : κ → Option β) (n : Nat) : Prop where
  out : ∃ (es : Array MapEntry) (clock : Nat) (l : List (κ × β)), w.heap[b]? = some (.map es clock) ∧ es.toList.map (fun e => (e.key, e.val)) = l.map (fun p => (kenc p.1, venc p.2)) ∧ (∀ p ∈ l, ok p.1) ∧ (l.map (·.1)).Nodup ∧
    (∀ e ∈ es.toList, e.born < clock) ∧ (es.toList.map (·.born)).Nodup ∧ (∀ k v, (k, v) ∈ l ↔ f k = some v) ∧ n = l.length

section
variable {κ β : Type} {P : Program} {kT e t : TypeId} {kenc : κ → Value} {venc : β → Value} {ok : κ → Prop} {w : World} {b n : Nat} {f : κ → Option β}

theorem MapF.made (w : World) : MapF kenc venc ok (w.alloc (.map #[] 0)) w.heap.size (fun _ => none) 0 :=
  ⟨#[], 0, [], (MapKept.heap_alloc w _).1, by simp, by simp, by simp, by simp, by simp, by simp, rfl⟩
theorem MapF.move {w' : World} (h : MapF kenc venc ok w b f n) (hb : w'.heap[b]? = w.heap[b]?) : MapF kenc venc ok w' b f n := by
  obtain ⟨es, c, l, h1, r⟩ := h.out
  exact ⟨es, c, l, hb.trans h1, r⟩
theorem MapF.lt (h : MapF kenc venc ok w b f n) : b < w.heap.size := by
  obtain ⟨es, c, l, h1, r⟩ := h.out
  exact (Array.getElem?_eq_some_iff.1 h1).1
theorem MapF.alloc (h : MapF kenc venc ok w b f n) (o : Obj) : MapF kenc venc ok (w.alloc o) b f n := h.move (Below.heap_alloc w o b h.lt)
theorem MapF.drewN (h : MapF kenc venc ok w b f n) (m : Nat) : MapF kenc venc ok (w.drewN m) b f n := h.move rfl
theorem MapF.drew (h : MapF kenc venc ok w b f n) : MapF kenc venc ok w.drew b f n := h.move rfl
theorem MapF.grown {w' : World} {row : Option Nat} (h : MapF kenc venc ok w b f n) (hg : w.grownBy w' row) (hne : some b ≠ row) : MapF kenc venc ok w' b f n := h.move (hg.block b h.lt hne)
theorem MapF.below {w' : World} (h : MapF kenc venc ok w b f n) (hb : Below w.heap.size w w') : MapF kenc venc ok w' b f n := h.move (hb.block b h.lt)
theorem MapF.setCell (h : MapF kenc venc ok w b f n) {p : Addr} (hp : p.block ≠ b) (u : Value) : MapF kenc venc ok (w.setCell p u) b f n := h.move (Below.heap_setCell w p u b (fun e => hp e.symm))

/-- What the search for a key finds. -/
theorem found (K : KeyOk P kT kenc ok) {es : Array MapEntry} {l : List (κ × β)} (hl : es.toList.map (fun e => (e.key, e.val)) = l.map (fun p => (kenc p.1, venc p.2))) (hok : ∀ p ∈ l, ok p.1) {k : κ} (hk : ok k) (w : World) :
    ((Instr.findKey kT (kenc k) es.toList).run P w = .ok none w ∧ ∀ v, (k, v) ∉ l) ∨
    ∃ (j : Nat) (v : β) (e0 : MapEntry), (Instr.findKey kT (kenc k) es.toList).run P w = .ok (some (j, venc v)) w ∧ l[j]? = some (k, v) ∧ es[j]? = some e0 ∧ e0.key = kenc k ∧ e0.val = venc v := by
  obtain ⟨kl, hkl⟩ := K.is k hk
  have hes : ∀ e ∈ es.toList, ∃ l, keyOf P kT e.key = some l := by
    intro e he
    have : (e.key, e.val) ∈ l.map (fun p => (kenc p.1, venc p.2)) := by rw [← hl]; exact List.mem_map.2 ⟨e, he, rfl⟩
    obtain ⟨p, hp, h1⟩ := List.mem_map.1 this
    obtain ⟨q, hq⟩ := K.is p.1 (hok p hp)
    exact ⟨q, by rw [← (Prod.mk.inj h1).1]; exact hq⟩
  have at_ : ∀ j : Nat, (es.toList[j]?).map (fun e => (e.key, e.val)) = (l[j]?).map (fun p => (kenc p.1, venc p.2)) := by
    intro j
    have := congrArg (fun x => x[j]?) hl
    simpa using this
  rcases K.law.find w hkl es.toList hes with ⟨h1, h2⟩ | ⟨j, e0, h1, h2, h3⟩
  · refine .inl ⟨h1, fun v hv => ?_⟩
    have : (kenc k, venc v) ∈ es.toList.map (fun e => (e.key, e.val)) := by rw [hl]; exact List.mem_map.2 ⟨(k, v), hv, rfl⟩
    obtain ⟨e, he, h4⟩ := List.mem_map.1 this
    exact h2 e he (Prod.mk.inj h4).1
  · have h4 := at_ j
    rw [h2] at h4
    cases hp : l[j]? with
    | none => rw [hp] at h4; simp at h4
    | some p =>
      rw [hp] at h4
      simp only [Option.map_some, Option.some.injEq, Prod.mk.injEq] at h4
      have h5 : p.1 = k := K.inj _ _ (h4.1.symm.trans h3)
      refine .inr ⟨j, p.2, e0, by rw [← h4.2]; exact h1, by rw [← h5]; exact hp, by simpa using h2, h3, h4.2⟩

theorem MapF.lookup (h : MapF kenc venc ok w b f n) (K : KeyOk P kT kenc ok) (ht : P.underlying t = some (.map kT e)) {z : Value} (hz : (zeroValue e).run P w = .ok z w) {k : κ} (hk : ok k) (c : Bool) :
    (Instr.lookup t (.map (some b)) (kenc k) c).run P w = .ok (if c then .tuple #[((f k).map venc).getD z, .bool (f k).isSome] else ((f k).map venc).getD z) w := by
  obtain ⟨es, clock, l, hb, hl, hok, hnd, _, _, hf, _⟩ := h.out
  obtain ⟨kl, hkl⟩ := K.is k hk
  rcases found K hl hok hk w with ⟨h1, h2⟩ | ⟨j, v, e0, h1, h2, _⟩
  · have : f k = none := by
      cases hfk : f k with
      | none => rfl
      | some v => exact absurd ((hf k v).2 hfk) (h2 v)
    simp [Instr.lookup, run_underlying ht, MapKept.run_getObj_map hb, K.law.check w _ hkl, h1, hz, Result.andThen, this]
  · have : f k = some v := (hf k v).1 (List.mem_of_getElem? h2)
    simp [Instr.lookup, run_underlying ht, MapKept.run_getObj_map hb, K.law.check w _ hkl, h1, Result.andThen, this]

theorem MapF.len (h : MapF kenc venc ok w b f n) (ht : P.underlying t = some (.map kT e)) (ty : TypeId) : (Builtin.len_ #[t] ty #[.map (some b)]).run P w = .ok (.int .i64 n) w := by
  obtain ⟨es, clock, l, hb, hl, _, _, _, _, _, rfl⟩ := h.out
  have : es.size = l.length := by
    have := congrArg List.length hl
    simpa using this
  simp [Builtin.len_, run_underlying ht, MapKept.run_getObj_map hb, Result.andThen, goInt, this]

/-- A new key at the end. -/
theorem put_new {es : Array MapEntry} {clock : Nat} {l : List (κ × β)} (hb : w.heap[b]? = some (.map es clock)) (hl : es.toList.map (fun e => (e.key, e.val)) = l.map (fun p => (kenc p.1, venc p.2))) (hok : ∀ p ∈ l, ok p.1)
    (hnd : (l.map (·.1)).Nodup) (hbo : ∀ e ∈ es.toList, e.born < clock) (hbn : (es.toList.map (·.born)).Nodup) (hf : ∀ k v, (k, v) ∈ l ↔ f k = some v) {k : κ} (hk : ok k) (hno : ∀ v, (k, v) ∉ l) (v : β) :
    MapF kenc venc ok (setBlock w b (.map (es.push { key := kenc k, val := venc v, born := clock }) (clock + 1))) b (upd f k v) (l.length + 1) := by
  refine ⟨_, _, l ++ [(k, v)], heap_setBlock_same hb _, by simp [hl], ?_, ?_, ?_, ?_, ?_, by simp⟩
  · intro p hp
    rcases List.mem_append.1 hp with hp | hp
    · exact hok p hp
    · rw [List.mem_singleton.1 hp]; exact hk
  · rw [List.map_append, List.nodup_append]
    refine ⟨hnd, by simp, ?_⟩
    intro a ha b' hb' e
    simp at hb'
    subst hb'
    subst e
    obtain ⟨p, hp, rfl⟩ := List.mem_map.1 ha
    exact hno p.2 hp
  · intro e he
    simp at he
    rcases he with he | rfl
    · have := hbo e (by simpa using he); omega
    · simp
  · rw [Array.toList_push, List.map_append, List.nodup_append]
    refine ⟨hbn, by simp, ?_⟩
    intro a ha b' hb' e
    simp at hb'
    subst hb'
    obtain ⟨x, hx, rfl⟩ := List.mem_map.1 ha
    have := hbo x hx
    omega
  · intro k' v'
    rw [List.mem_append, hf]
    by_cases h : k' = k
    · subst h
      have : f k' = none := by
        cases hfk : f k' with
        | none => rfl
        | some x => exact absurd ((hf k' x).2 hfk) (hno x)
      rw [this, upd_same]; simp [eq_comm]
    · rw [upd_other f v h]; simp [h]

/-- An entry set anew, in its place. -/
theorem put_old {es : Array MapEntry} {clock : Nat} {l : List (κ × β)} (hb : w.heap[b]? = some (.map es clock)) (hl : es.toList.map (fun e => (e.key, e.val)) = l.map (fun p => (kenc p.1, venc p.2))) (hok : ∀ p ∈ l, ok p.1)
    (hnd : (l.map (·.1)).Nodup) (hbo : ∀ e ∈ es.toList, e.born < clock) (hbn : (es.toList.map (·.born)).Nodup) (hf : ∀ k v, (k, v) ∈ l ↔ f k = some v) {k : κ} {v0 : β} {j : Nat} (hj : l[j]? = some (k, v0)) (v : β) (g : MapEntry → MapEntry)
    (hg : ∀ e0, es[j]? = some e0 → (g e0).key = kenc k ∧ (g e0).val = venc v ∧ (g e0).born = e0.born) :
    MapF kenc venc ok (setBlock w b (.map (es.modify j g) clock)) b (upd f k v) l.length := by
  have hjl : j < l.length := (List.getElem?_eq_some_iff.1 hj).1
  have hlen : es.size = l.length := by have := congrArg List.length hl; simpa using this
  have hje : j < es.size := by omega
  obtain ⟨g1, g2, g3⟩ := hg es[j] (Array.getElem?_eq_getElem hje)
  have hlist : (es.modify j g).toList = es.toList.set j (g es[j]) := by
    rw [Array.toList_modify, modify_eq_set _ _ _ es[j] (by simp [hje])]
  refine ⟨es.modify j g, clock, l.set j (k, v), heap_setBlock_same hb _, ?_, ?_, ?_, ?_, ?_, ?_, by simp⟩
  · rw [hlist, List.map_set, hl, List.map_set, g1, g2]
  · intro p hp
    rcases List.mem_or_eq_of_mem_set hp with hp | rfl
    · exact hok p hp
    · exact hok (k, v0) (List.mem_of_getElem? hj)
  · rw [List.map_set]
    have : (l.map (·.1)).set j k = l.map (·.1) := by
      apply List.ext_getElem?
      intro i
      rw [List.getElem?_set]
      split
      · rename_i h; subst h; rw [List.getElem?_map, hj]; simp [hjl]
      · rfl
    rw [this]; exact hnd
  · intro e he
    rw [hlist] at he
    rcases List.mem_or_eq_of_mem_set he with he | rfl
    · exact hbo e he
    · rw [g3]; exact hbo _ (by simp)
  · rw [hlist, List.map_set, g3]
    have : (es.toList.map (·.born)).set j es[j].born = es.toList.map (·.born) := by
      apply List.ext_getElem?
      intro i
      rw [List.getElem?_set]
      split
      · rename_i h; subst h; simp [hje]
      · rfl
    rw [this]; exact hbn
  · intro k' v'
    have key : ∀ (i : Nat) (p : κ × β), l[i]? = some p → p.1 = k → i = j := by
      intro i p hi hp
      have hi' : i < (l.map (·.1)).length := by simpa using (List.getElem?_eq_some_iff.1 hi).1
      have h1 : (l.map (·.1))[i]? = some k := by simp [hi, hp]
      have h2 : (l.map (·.1))[j]? = some k := by simp [hj]
      exact (List.getElem?_inj hi' hnd).1 (h1.trans h2.symm)
    by_cases h : k' = k
    · subst h
      rw [upd_same]
      constructor
      · intro hm
        obtain ⟨i, hi⟩ := List.mem_iff_getElem?.1 hm
        rw [List.getElem?_set] at hi
        split at hi
        · simp at hi; exact congrArg some hi
        · rename_i hne
          exact absurd (key i _ hi rfl).symm hne
      · intro hv
        have hv := Option.some.inj hv
        subst hv
        exact List.mem_iff_getElem?.2 ⟨j, by simp [hjl]⟩
    · rw [upd_other f v h, ← hf]
      constructor
      · intro hm
        rcases List.mem_or_eq_of_mem_set hm with hm | hm
        · exact hm
        · exact absurd (Prod.mk.inj hm).1 h
      · intro hm
        obtain ⟨i, hi⟩ := List.mem_iff_getElem?.1 hm
        refine List.mem_iff_getElem?.2 ⟨i, ?_⟩
        rw [List.getElem?_set, if_neg ?_]
        · exact hi
        · rintro rfl
          rw [hj] at hi
          exact h (Prod.mk.inj (Option.some.inj hi)).1.symm

theorem grown_setBlock {es es' : Array MapEntry} {clock clock' : Nat} (hb : w.heap[b]? = some (.map es clock)) : w.grownBy (setBlock w b (.map es' clock')) (some b) :=
  ⟨rfl, rfl, rfl, by simp [setBlock], fun i _ hi => heap_setBlock_other hb _ (fun e => hi (by rw [e]))⟩

theorem MapF.update (h : MapF kenc venc ok w b f n) (K : KeyOk P kT kenc ok) (ht : P.underlying t = some (.map kT e)) {k : κ} (hk : ok k) (v : β) :
    ∃ w', (Instr.mapUpdate t (.map (some b)) (kenc k) (venc v)).run P w = .ok () w' ∧ MapF kenc venc ok w' b (upd f k v) (n + if (f k).isSome then 0 else 1) ∧ w.grownBy w' (some b) := by
  obtain ⟨es, clock, l, hb, hl, hok, hnd, hbo, hbn, hf, rfl⟩ := h.out
  obtain ⟨kl, hkl⟩ := K.is k hk
  rcases found K hl hok hk w with ⟨h1, h2⟩ | ⟨j, v0, e0, h1, h2, h3, h4, h5⟩
  · have : f k = none := by
      cases hfk : f k with
      | none => rfl
      | some v => exact absurd ((hf k v).2 hfk) (h2 v)
    refine ⟨_, ?_, by rw [this]; exact put_new hb hl hok hnd hbo hbn hf hk h2 v, grown_setBlock hb⟩
    simp [Instr.mapUpdate, run_underlying ht, MapKept.run_getObj_map hb, K.law.check w false hkl, h1, MapKept.run_setObj_map _ hb, Result.andThen, setBlock]
  · have : f k = some v0 := (hf k v0).1 (List.mem_of_getElem? h2)
    refine ⟨_, ?_, by rw [this]; exact put_old hb hl hok hnd hbo hbn hf h2 v (fun e => { e with key := kenc k, val := venc v }) (fun _ _ => ⟨rfl, rfl, rfl⟩), grown_setBlock hb⟩
    simp [Instr.mapUpdate, run_underlying ht, MapKept.run_getObj_map hb, K.law.check w false hkl, h1, h3, h4, K.law.stays w hkl, MapKept.run_setObj_map _ hb, Result.andThen, setBlock]

theorem run_entryStore {es : Array MapEntry} {clock born i : Nat} (hb : w.heap[b]? = some (.map es clock)) (hidx : es.findIdx? (fun e => (e.born : Int) == (born : Int)) = some i) (v : Value) :
    (Instr.entryStore t (.map (some b)) (.int .i64 born) v).run P w = .ok () (setBlock w b (.map (es.modify i fun e => { e with val := v }) clock)) := by
  simp [Instr.entryStore, MapKept.run_getObj_map hb, asInt, asIntOf, hidx, MapKept.run_setObj_map _ hb, Result.andThen, setBlock]

/-- 'm[k] op= v': the entry is found or made .. -/
theorem MapF.entry (h : MapF kenc venc ok w b f n) (K : KeyOk P kT kenc ok) (ht : P.underlying t = some (.map kT e)) {zv : β} (hz : (zeroValue e).run P w = .ok (venc zv) w) {k : κ} (hk : ok k) :
    ∃ w' stamp, (Instr.mapEntry t (.map (some b)) (kenc k)).run P w = .ok (.tuple #[venc ((f k).getD zv), .int .i64 stamp]) w' ∧ MapF kenc venc ok w' b (upd f k ((f k).getD zv)) (n + if (f k).isSome then 0 else 1) ∧ w.grownBy w' (some b) ∧
      ∀ v, ∃ w'', (Instr.entryStore t (.map (some b)) (.int .i64 stamp) (venc v)).run P w' = .ok () w'' ∧ MapF kenc venc ok w'' b (upd f k v) (n + if (f k).isSome then 0 else 1) ∧ w.grownBy w'' (some b) := by
  obtain ⟨es, clock, l, hb, hl, hok, hnd, hbo, hbn, hf, rfl⟩ := h.out
  obtain ⟨kl, hkl⟩ := K.is k hk
  have hlen : es.size = l.length := by have := congrArg List.length hl; simpa using this
  rcases found K hl hok hk w with ⟨h1, h2⟩ | ⟨j, v0, e0, h1, h2, h3, h4, h5⟩
  · have hn : f k = none := by
      cases hfk : f k with
      | none => rfl
      | some v => exact absurd ((hf k v).2 hfk) (h2 v)
    have hM := put_new hb hl hok hnd hbo hbn hf hk h2 zv
    have hb' : (setBlock w b (.map (es.push { key := kenc k, val := venc zv, born := clock }) (clock + 1))).heap[b]? = some (.map (es.push { key := kenc k, val := venc zv, born := clock }) (clock + 1)) := heap_setBlock_same hb _
    refine ⟨_, clock, ?_, by rw [hn]; exact hM, grown_setBlock hb, fun v => ?_⟩
    · simp [Instr.mapEntry, run_underlying ht, MapKept.run_getObj_map hb, K.law.check w false hkl, h1, hz, MapKept.run_setObj_map _ hb, Result.andThen, setBlock, goInt, hn]
    · have hidx : (es.push { key := kenc k, val := venc zv, born := clock }).findIdx? (fun e => (e.born : Int) == (clock : Int)) = some es.size := by
        rw [Array.findIdx?_eq_some_iff_getElem]
        refine ⟨by simp, by simp, fun i hi => ?_⟩
        have hi' : i < es.size := by omega
        have := hbo es[i] (by simp)
        simp [Array.getElem_push, hi']
        omega
      obtain ⟨hes2, hl2⟩ : (es.push { key := kenc k, val := venc zv, born := clock }).toList.map (fun e => (e.key, e.val)) = (l ++ [(k, zv)]).map (fun p => (kenc p.1, venc p.2)) ∧ True := ⟨by simp [hl], trivial⟩
      have hM2 := put_old (w := setBlock w b (.map (es.push { key := kenc k, val := venc zv, born := clock }) (clock + 1))) (b := b) (f := upd f k zv) (k := k) (v0 := zv) (j := l.length) hb' hes2
        (by obtain ⟨es2, c2, l2, q1, q2, q3, q4, q5, q6, q7, q8⟩ := hM.out
            intro p hp
            rcases List.mem_append.1 hp with hp | hp
            · exact hok p hp
            · rw [List.mem_singleton.1 hp]; exact hk)
        (by rw [List.map_append, List.nodup_append]
            refine ⟨hnd, by simp, ?_⟩
            intro a ha b' hb2 e2
            simp at hb2
            subst hb2
            subst e2
            obtain ⟨p, hp, rfl⟩ := List.mem_map.1 ha
            exact h2 p.2 hp)
        (by intro e1 he
            simp at he
            rcases he with he | rfl
            · have := hbo e1 (by simpa using he); omega
            · simp)
        (by rw [Array.toList_push, List.map_append, List.nodup_append]
            refine ⟨hbn, by simp, ?_⟩
            intro a ha b' hb2 e2
            simp at hb2
            subst hb2
            obtain ⟨x, hx, rfl⟩ := List.mem_map.1 ha
            have := hbo x hx
            omega)
        (by intro k' v'
            rw [List.mem_append, hf]
            by_cases h : k' = k
            · subst h; rw [hn, upd_same]; simp [eq_comm]
            · rw [upd_other f zv h]; simp [h])
        (by simp) v (fun e1 => { e1 with val := venc v }) (fun e1 he1 => by
          rw [← hlen] at he1
          simp at he1
          subst he1
          exact ⟨rfl, rfl, rfl⟩)
      refine ⟨_, ?_, by rw [upd_upd] at hM2; rw [hn]; simpa using hM2, ?_⟩
      · rw [← hlen]
        exact run_entryStore hb' hidx _
      · exact ⟨rfl, rfl, rfl, by simp [setBlock], fun i _ hi => (heap_setBlock_other hb' _ (fun e => hi (by rw [e]))).trans (heap_setBlock_other hb _ (fun e => hi (by rw [e])))⟩
  · have hs : f k = some v0 := (hf k v0).1 (List.mem_of_getElem? h2)
    have hM := put_old hb hl hok hnd hbo hbn hf h2 v0 (fun e => { e with key := kenc k }) (fun e1 he1 => by rw [h3] at he1; cases he1; exact ⟨rfl, h5, rfl⟩)
    have hb' : (setBlock w b (.map (es.modify j (fun e => { e with key := kenc k })) clock)).heap[b]? = some (.map (es.modify j (fun e => { e with key := kenc k })) clock) := heap_setBlock_same hb _
    have hje : j < es.size := (Array.getElem?_eq_some_iff.1 h3).1
    have he0 : es[j] = e0 := by rw [Array.getElem?_eq_getElem hje] at h3; exact Option.some.inj h3
    have hsame : es.modify j (fun e => { e with key := kenc k }) = es := by
      apply Array.ext
      · simp
      · intro i hi1 hi2
        rw [Array.getElem_modify]
        split
        · rename_i h; subst h; rw [he0, ← h4]
        · rfl
    refine ⟨_, e0.born, ?_, by rw [hs]; exact hM, grown_setBlock hb, fun v => ?_⟩
    · simp [Instr.mapEntry, run_underlying ht, MapKept.run_getObj_map hb, K.law.check w false hkl, h1, h3, h4, K.law.stays w hkl, MapKept.run_setObj_map _ hb, Result.andThen, setBlock, goInt, hs]
    · rw [hsame] at hb' ⊢
      have hidx : es.findIdx? (fun e => (e.born : Int) == (e0.born : Int)) = some j := by
        rw [Array.findIdx?_eq_some_iff_getElem]
        refine ⟨hje, by simp [he0], fun i hi => ?_⟩
        have hi' : i < es.size := by omega
        have hne : es[i].born ≠ es[j].born := by
          intro e1
          have h1 : (es.toList.map (·.born))[i]? = (es.toList.map (·.born))[j]? := by simp [hi', hje, e1]
          have := (List.getElem?_inj (by simpa using hi') hbn).1 h1
          omega
        rw [he0] at hne
        simp
        omega
      have hM2 := put_old (w := setBlock w b (.map es clock)) (f := f) hb' hl hok hnd hbo hbn hf h2 v (fun e => { e with val := venc v }) (fun e1 he1 => by rw [h3] at he1; cases he1; exact ⟨h4, rfl, rfl⟩)
      refine ⟨_, ?_, by rw [hs]; exact hM2, ?_⟩
      · exact run_entryStore hb' hidx _
      · exact ⟨rfl, rfl, rfl, by simp [setBlock], fun i _ hi => (heap_setBlock_other hb' _ (fun e => hi (by rw [e]))).trans (heap_setBlock_other hb _ (fun e => hi (by rw [e])))⟩
end
end Go.Proofs.Ythaiodklfoegiaa.BMap
