/- Valid's end, in plain words: lines filled up to 64 masks. -/
import Derived.Test.YthaiodklfoegiaaVPure2
import Derived.Test.YthaiodklfoegiaaGBlk
namespace Go.Proofs.Ythaiodklfoegiaa.VPure
open Go.RowKit Go.Proofs.YthaiodklfoegiaaW.PrintWords Go.Proofs.Ythaiodklfoegiaa.GBlk
open Go.Proofs.Ythaiodklfoegiaa

/-- The mask in a place. -/
def mat (ms : List (List Int)) (a b : Nat) : Int := (ms.getD a []).getD b 0
/-- .. if it has been written. -/
def partM (ms : List (List Int)) (i j a b : Nat) : Int := if a < i ∨ (a = i ∧ b < j) then mat ms a b else 0
theorem part_next (ms : List (List Int)) (i j a b : Nat) : (if a = i ∧ b = j then mat ms i j else partM ms i j a b) = partM ms i (j + 1) a b := by
  unfold partM
  by_cases h : a = i ∧ b = j
  · obtain ⟨rfl, rfl⟩ := h
    rw [if_pos ⟨rfl, rfl⟩, if_pos (by omega)]
  · rw [if_neg h]
    by_cases h2 : a < i ∨ (a = i ∧ b < j)
    · rw [if_pos h2, if_pos (by omega)]
    · rw [if_neg h2, if_neg (by omega)]
theorem part_row (ms : List (List Int)) (i j a b : Nat) (h : (ms.getD i []).length = j) : partM ms i j a b = partM ms (i + 1) 0 a b := by
  unfold partM
  by_cases h2 : a < i ∨ (a = i ∧ b < j)
  · rw [if_pos h2, if_pos (by omega)]
  · rw [if_neg h2]
    by_cases h3 : a < i + 1 ∨ (a = i + 1 ∧ b < 0)
    · rw [if_pos h3]
      have : a = i := by omega
      subst this
      have hb : (ms.getD a []).length ≤ b := by omega
      unfold mat
      rw [List.getD_eq_getElem?_getD, List.getElem?_eq_none hb]; rfl
    · rw [if_neg h3]
theorem part_zero (ms : List (List Int)) (a b : Nat) : partM ms 0 0 a b = 0 := by
  unfold partM; rw [if_neg (by omega)]
theorem getD_out {α : Type} (l : List α) (a : Nat) (d : α) (h : l.length ≤ a) : l.getD a d = d := by
  rw [List.getD_eq_getElem?_getD, List.getElem?_eq_none h]; rfl
theorem part_all (ms : List (List Int)) (a b : Nat) : partM ms ms.length 0 a b = mat ms a b := by
  unfold partM
  by_cases h : a < ms.length
  · rw [if_pos (by omega)]
  · rw [if_neg (by omega)]
    have e : ms.getD a [] = [] := getD_out _ _ _ (by omega)
    unfold mat
    rw [e]; rfl
theorem getD_of (ms : List (List Int)) (a : Nat) (h : a < ms.length) : ms.getD a [] = ms[a] := by simp [h]
theorem mat_u16 (ms : List (List Int)) (hu : ∀ row ∈ ms, ∀ x ∈ row, (Lit.int .u16 x).wf = true) (a b : Nat) : (Lit.int .u16 (mat ms a b)).wf = true := by
  unfold mat
  by_cases ha : a < ms.length
  · rw [getD_of ms a ha]
    by_cases hb : b < ms[a].length
    · have := hu _ (List.getElem_mem ha) _ (List.getElem_mem hb)
      simpa [hb] using this
    · rw [List.getD_eq_getElem?_getD, List.getElem?_eq_none (by omega)]; rfl
  · have e : ms.getD a [] = [] := getD_out _ _ _ (by omega)
    rw [e]; rfl

section
variable (la ls lo : List ByteArray) (of on : List Int) (ms : List (List Int)) (m : Nat)
theorem told_some {l : List Int} {x : Int} (h : told (great 0 l) = (x, true)) : great 0 l = some x := by
  unfold told at h
  cases hg : great 0 l with
  | none => rw [hg] at h; simp at h
  | some y => rw [hg] at h; simp at h; rw [h]
open Classical in
theorem valid_shape_false (t4 : told (great 0 on) = ((m : Int), true)) (i : Nat) (hi : i < ms.length) (h : ¬ ((ms.getD i []).length = m ∧ ∀ x ∈ ms.getD i [], x < 2 ^ la.length)) : validB la ls lo of on ms = false := by
  unfold validB
  refine decide_eq_false ?_
  unfold validP
  rintro ⟨-, -, -, -, -, -, -, -, n', m', -, h4, ⟨-, h5⟩, -⟩
  rw [told_some t4] at h4
  have : m = m' := by
    have := Option.some.inj h4
    omega
  subst this
  refine h (h5 _ ?_)
  rw [getD_of ms i hi]
  exact List.getElem_mem hi
/-- Filled up with noughts. -/
theorem fill_inj {n : Nat} {a b : List Int} (ha : a.length = n) (hb : b.length = n) (hn : n ≤ 64) : ((List.range 64).map fun k => a.getD k 0) = ((List.range 64).map fun k => b.getD k 0) ↔ a = b := by
  constructor
  · intro h
    apply List.ext_getElem (by omega)
    intro k h1 h2
    have := congrArg (fun l => l[k]?) h
    have hk : k < 64 := by omega
    simp only [List.getElem?_map, List.getElem?_range hk, Option.map_some, Option.some.injEq] at this
    simpa [h1, h2] using this
  · rintro rfl; rfl
theorem nodup_map_iff {α β : Type} (f : α → β) : ∀ (l : List α), (∀ a ∈ l, ∀ b ∈ l, f a = f b ↔ a = b) → ((l.map f).Nodup ↔ l.Nodup)
  | [], _ => by simp
  | x :: r, h => by
    have ih := nodup_map_iff f r (fun a ha b hb => h a (by simp [ha]) b (by simp [hb]))
    simp only [List.map_cons, List.nodup_cons, ih]
    refine and_congr_left fun _ => not_congr ?_
    constructor
    · intro hm
      obtain ⟨y, hy, e⟩ := List.mem_map.1 hm
      have := (h y (by simp [hy]) x (by simp)).1 e
      rwa [← this]
    · intro hm; exact List.mem_map_of_mem hm
theorem rows_nodup (hrow : ∀ row ∈ ms, row.length = m) (hm : m ≤ 64) : (linesOf ms.length (mat ms)).Nodup ↔ ms.Nodup := by
  have e : linesOf ms.length (mat ms) = ms.map (fun row => (List.range 64).map fun k => row.getD k 0) := by
    unfold linesOf
    apply List.ext_getElem (by simp)
    intro k h1 h2
    have hk : k < ms.length := by simpa using h1
    simp [mat, hk]
  rw [e]
  exact nodup_map_iff _ _ (fun a ha b hb => fill_inj (hrow a ha) (hrow b hb) hm)
theorem cols_nodup (hn : ms.length ≤ 64) : (linesOf m (fun b a => mat ms a b)).Nodup ↔ (cols ms m).Nodup := by
  have e : linesOf m (fun b a => mat ms a b) = (cols ms m).map (fun row => (List.range 64).map fun k => row.getD k 0) := by
    unfold linesOf cols
    rw [List.map_map]
    apply List.map_congr_left
    intro b _
    simp only [Function.comp_def]
    apply List.map_congr_left
    intro a _
    unfold mat column
    by_cases ha : a < ms.length
    · simp [ha]
    · have e1 : ms.getD a [] = [] := getD_out _ _ _ (by omega)
      rw [e1, getD_out (List.map _ _) _ _ (by simp; omega)]; rfl
  rw [e]
  refine nodup_map_iff _ _ (fun a ha b hb => fill_inj (n := ms.length) ?_ ?_ hn)
  · obtain ⟨j, -, rfl⟩ := List.mem_map.1 ha; simp [column]
  · obtain ⟨j, -, rfl⟩ := List.mem_map.1 hb; simp [column]
open Classical in
theorem valid_fin (h0 : la.length ≤ 16) (h1 : ls.length ≤ 64) (h2 : lo.length ≤ 64) (b0 : onceB la = true) (b1 : onceB ls = true) (b2 : onceB lo = true) (hof : of.length = ls.length) (hon : on.length = lo.length)
    (t3 : told (great 0 of) = ((ms.length : Int), true)) (t4 : told (great 0 on) = ((m : Int), true)) (hn : ms.length ≤ 64) (hm : m ≤ 64)
    (hs : ∀ a, a < ms.length → (ms.getD a []).length = m ∧ ∀ x ∈ ms.getD a [], x < 2 ^ la.length) :
    (decide (linesOf ms.length (mat ms)).Nodup && decide (linesOf m (fun b a => mat ms a b)).Nodup) = validB la ls lo of on ms := by
  have hs' : ∀ row ∈ ms, row.length = m ∧ ∀ x ∈ row, x < 2 ^ la.length := by
    intro row hr
    obtain ⟨a, ha, rfl⟩ := List.getElem_of_mem hr
    have := hs a ha
    rwa [getD_of ms a ha] at this
  have e1 := rows_nodup ms m (fun row hr => (hs' row hr).1) hm
  have e2 := cols_nodup ms m hn
  unfold validB
  rw [Bool.eq_iff_iff, Bool.and_eq_true, decide_eq_true_iff, decide_eq_true_iff, decide_eq_true_iff, e1, e2]
  unfold validP
  simp only [onceB, decide_eq_true_eq] at b0 b1 b2
  constructor
  · rintro ⟨n1, n2⟩
    exact ⟨h0, h1, h2, hof, hon, b0, b1, b2, ms.length, m, told_some t3, told_some t4, ⟨rfl, hs'⟩, n1, n2⟩
  · rintro ⟨-, -, -, -, -, -, -, -, n', m', -, h4, -, n1, n2⟩
    rw [told_some t4] at h4
    have : m = m' := by
      have := Option.some.inj h4
      omega
    subst this
    exact ⟨n1, n2⟩
end
end Go.Proofs.Ythaiodklfoegiaa.VPure
