/- The plain side of Valid: what the printed functions (once, counted, the document's Valid) come to, in plain words over lists. -/
import Derived.Test.YthaiodklfoegiaaPGx5
import Derived.Test.YthaiodklfoegiaaPGx6
import Derived.Test.YthaiodklfoegiaaPGx13
namespace Go.Proofs.Ythaiodklfoegiaa.VPure
open Go.RowKit Go.Proofs.Ythaiodklfoegiaa.PG Go.Proofs.YthaiodklfoegiaaW.PrintWords Go.Proofs.YthaiodklfoegiaaW.PrintMore

theorem w64 {i : Int} (h0 : -9223372036854775808 ≤ i) (h1 : i ≤ 9223372036854775807) : wrap64 i = i := by unfold wrap64; omega
theorem w64n {n m : Nat} (h : n < m) (hm : m ≤ 9223372036854775807) : wrap64 ((n : Int) + 1) = ((n + 1 : Nat) : Int) := by unfold wrap64; omega
theorem rdOf_get {α : Type} (d : α) (l : List α) (n : Nat) (h : n < l.length) : rdOf d l (n : Int) = l[n] := by simp [rdOf, h]
theorem rd_get (l : List Int) (n : Nat) (h : n < l.length) : rd l (n : Int) = l[n] := by simp [rd, h]
theorem rd_L3_get (l : List (List Int)) (n : Nat) (h : n < l.length) : rd_L3 l (n : Int) = l[n] := by simp [rd_L3, h]

/-- A list of texts, by their bytes. -/
def nm (l : List ByteArray) : List (List UInt8) := l.map ByteArray.toList

def pos : List ByteArray → ByteArray → Nat → Int
  | [], _, _ => -1
  | x :: r, s, n => if x.toList = s.toList then n else pos r s (n + 1)
theorem pos_range : ∀ (l : List ByteArray) (s : ByteArray) (n : Nat), pos l s n = -1 ∨ ((n : Int) ≤ pos l s n ∧ pos l s n < n + l.length)
  | [], _, _ => .inl rfl
  | x :: r, s, n => by
    simp only [pos]
    split
    · right; simp; omega
    · rcases pos_range r s (n + 1) with h | h
      · exact .inl h
      · right; simp at h ⊢; omega
theorem pos_mem : ∀ (l : List ByteArray) (s : ByteArray) (n : Nat), 0 ≤ pos l s n ↔ s.toList ∈ nm l
  | [], s, n => by simp [pos, nm]
  | x :: r, s, n => by
    simp only [pos, nm, List.map_cons, List.mem_cons]
    split
    · rename_i h; simp [h]
    · rename_i h
      rw [pos_mem r s (n + 1)]
      simp [nm, eq_comm, h]
theorem index_ev (l : List ByteArray) (s : ByteArray) (hl : l.length ≤ 9223372036854775807) : ∀ (d n : Nat), n + d = l.length → Ev (fun k => slices_Index_string_string.l0 k l s l.length n) (pos (l.drop n) s n)
  | 0, n, h => by
    rw [List.drop_eq_nil_of_le (by omega)]
    refine Ev.step (f := fun _ => some (-1)) (fun k => ?_) (Ev.now _)
    simp only [slices_Index_string_string.l0]
    rw [if_neg (by omega)]
  | d + 1, n, h => by
    have hlt : n < l.length := by omega
    rw [List.drop_eq_getElem_cons hlt]
    simp only [pos]
    by_cases he : l[n].toList = s.toList
    · rw [if_pos he]
      refine Ev.step (f := fun _ => some (n : Int)) (fun k => ?_) (Ev.now _)
      simp only [slices_Index_string_string.l0]
      rw [if_pos (by omega), if_pos (by omega), if_pos (by omega), rdOf_get _ _ _ hlt, if_pos he.symm]
    · rw [if_neg he]
      refine Ev.step (fun k => ?_) (index_ev l s hl d (n + 1) (by omega))
      simp only [slices_Index_string_string.l0]
      rw [if_pos (by omega), if_pos (by omega), if_pos (by omega), rdOf_get _ _ _ hlt, if_neg (fun e => he e.symm), w64n hlt hl]
theorem index_f (l : List ByteArray) (s : ByteArray) (hl : l.length ≤ 9223372036854775807) : Ev (fun k => slices_Index_string_string.f k l s) (pos l s 0) := index_ev l s hl l.length 0 (by omega)
theorem contains_f (l : List ByteArray) (s : ByteArray) (hl : l.length ≤ 9223372036854775807) : Ev (fun k => slices_Contains_string_string.f k l s) (decide (s.toList ∈ nm l)) := by
  refine Ev.bind (f := fun _ t => some (decide (t ≥ 0))) (index_f l s hl) ?_
  have : decide (pos l s 0 ≥ 0) = decide (s.toList ∈ nm l) := decide_eq_decide.2 (pos_mem l s 0)
  rw [this]
  exact Ev.now _

/-- Stands no text twice? -/
def onceB (l : List ByteArray) : Bool := decide (nm l).Nodup
theorem once_ev (l : List ByteArray) (hl : l.length ≤ 9223372036854775807) : ∀ (d n : Nat), n + d = l.length → ((nm l).take n).Nodup → Ev (fun k => graph_once.l0 k l l l.length n) (onceB l)
  | 0, n, h, hn => by
    refine Ev.step (f := fun _ => some true) (fun k => ?_) ?_
    · simp only [graph_once.l0]
      rw [if_neg (by omega)]
    · have : onceB l = true := by
        rw [List.take_of_length_le (by simp [nm]; omega)] at hn
        simpa [onceB] using hn
      rw [this]; exact Ev.now _
  | d + 1, n, h, hn => by
    have hlt : n < l.length := by omega
    have hln : n < (nm l).length := by simpa [nm] using hlt
    have hgn : (nm l)[n] = l[n].toList := by simp [nm]
    have htk : nm (l.take n) = (nm l).take n := by simp [nm, List.map_take]
    refine Ev.step (f := fun k => (slices_Contains_string_string.f k (l.take n) l[n]).bind fun t => if t = true then some false else graph_once.l0 k l l l.length ((n + 1 : Nat) : Int)) (fun k => ?_) ?_
    · simp only [graph_once.l0]
      rw [if_pos (by omega), if_pos (by omega), if_pos (by omega), if_pos (by omega), rdOf_get _ _ _ hlt, w64n hlt hl, Int.toNat_natCast]
    · refine Ev.bind (f := fun k t => if t = true then some false else graph_once.l0 k l l l.length ((n + 1 : Nat) : Int)) (contains_f (l.take n) l[n] (by simp; omega)) ?_
      rw [htk]
      by_cases hm : l[n].toList ∈ (nm l).take n
      · simp only [hm, decide_true, if_true]
        have : onceB l = false := by
          simp only [onceB, decide_eq_false_iff_not]
          intro hnd
          obtain ⟨i, hi, he⟩ := List.getElem_of_mem hm
          rw [List.getElem_take] at he
          simp at hi
          have := (List.getElem_inj hnd).1 (he.trans hgn.symm)
          omega
        rw [this]; exact Ev.now _
      · simp only [hm, decide_false, Bool.false_eq_true, if_false]
        refine once_ev l hl d (n + 1) (by omega) ?_
        rw [List.take_succ_eq_append_getElem hln, List.nodup_append]
        refine ⟨hn, by simp, ?_⟩
        intro a ha b hb e
        simp at hb
        subst hb
        subst e
        rw [hgn] at ha
        exact hm ha
theorem once_f (l : List ByteArray) (hl : l.length ≤ 9223372036854775807) : Ev (fun k => graph_once.f k l) (onceB l) := once_ev l hl l.length 0 (by omega) (by simp)

theorem twice_in (l : List ByteArray) (hl : l.length ≤ 9223372036854775807) (n : Nat) (hn : n < l.length) (r : Bool) (hr : l[n].toList ∉ (nm l).take n → Ev (fun k => gatehouseref11_twice.l0 k l ((n + 1 : Nat) : Int)) r)
    (hr' : l[n].toList ∈ (nm l).take n → r = true) : ∀ (d m : Nat), m + d = n → l[n].toList ∉ (nm l).take m → Ev (fun k => gatehouseref11_twice.l1 k l n m) r
  | 0, m, h, hm => by
    have hmn : m = n := by omega
    subst hmn
    refine Ev.step (fun k => ?_) (hr hm)
    simp only [gatehouseref11_twice.l1]
    rw [if_neg (by omega), w64n hn hl]
  | d + 1, m, h, hm => by
    have hml : m < l.length := by omega
    by_cases he : l[m].toList = l[n].toList
    · have hin : l[n].toList ∈ (nm l).take n := by
        rw [← he, List.mem_take_iff_getElem]
        exact ⟨m, by simp [nm]; omega, by simp [nm]⟩
      rw [hr' hin]
      refine Ev.step (f := fun _ => some true) (fun k => ?_) (Ev.now _)
      simp only [gatehouseref11_twice.l1]
      rw [if_pos (by omega), if_pos (by omega), if_pos (by omega), if_pos (by omega), if_pos (by omega), rdOf_get _ _ _ hml, rdOf_get _ _ _ hn, if_pos he]
    · refine Ev.step (fun k => ?_) (twice_in l hl n hn r hr hr' d (m + 1) (by omega) ?_)
      · simp only [gatehouseref11_twice.l1]
        rw [if_pos (by omega), if_pos (by omega), if_pos (by omega), if_pos (by omega), if_pos (by omega), rdOf_get _ _ _ hml, rdOf_get _ _ _ hn, if_neg he, w64n hml hl]
      · rw [List.take_succ_eq_append_getElem (by simpa [nm] using hml), List.mem_append, List.mem_singleton]
        rintro (h1 | h1)
        · exact hm h1
        · exact he (by rw [h1]; simp [nm])
theorem twice_ev (l : List ByteArray) (hl : l.length ≤ 9223372036854775807) : ∀ (d n : Nat), n + d = l.length → ((nm l).take n).Nodup → Ev (fun k => gatehouseref11_twice.l0 k l n) (!onceB l)
  | 0, n, h, hn => by
    refine Ev.step (f := fun _ => some false) (fun k => ?_) ?_
    · simp only [gatehouseref11_twice.l0]
      rw [if_neg (by omega)]
    · have : onceB l = true := by
        rw [List.take_of_length_le (by simp [nm]; omega)] at hn
        simpa [onceB] using hn
      rw [this]; exact Ev.now _
  | d + 1, n, h, hn => by
    have hlt : n < l.length := by omega
    have hln : n < (nm l).length := by simpa [nm] using hlt
    have hgn : (nm l)[n] = l[n].toList := by simp [nm]
    refine Ev.step (f := fun k => gatehouseref11_twice.l1 k l n ((0 : Nat) : Int)) (fun k => ?_) ?_
    · simp only [gatehouseref11_twice.l0]
      rw [if_pos (by omega)]; rfl
    · refine twice_in l hl n hlt (!onceB l) (fun hm => ?_) (fun hm => ?_) n 0 (by omega) (by simp)
      · refine twice_ev l hl d (n + 1) (by omega) ?_
        rw [List.take_succ_eq_append_getElem hln, List.nodup_append]
        refine ⟨hn, by simp, ?_⟩
        intro a ha b hb e
        simp at hb
        subst hb
        subst e
        rw [hgn] at ha
        exact hm ha
      · have : onceB l = false := by
          simp only [onceB, decide_eq_false_iff_not]
          intro hnd
          obtain ⟨i, hi, he⟩ := List.getElem_of_mem hm
          rw [List.getElem_take] at he
          simp at hi
          have := (List.getElem_inj hnd).1 (he.trans hgn.symm)
          omega
        rw [this]; rfl
theorem twice_f (l : List ByteArray) (hl : l.length ≤ 9223372036854775807) : Ev (fun k => gatehouseref11_twice.f k l) (!onceB l) := twice_ev l hl l.length 0 (by omega) (by simp)

/-- The greatest class of a list that is numbered as they come. -/
def great : Int → List Int → Option Int
  | n, [] => some n
  | n, x :: r => if x < 1 ∨ x > n + 1 then none else great (max n x) r
def told (o : Option Int) : Int × Bool := (o.getD 0, o.isSome)
theorem counted_ev (l : List Int) (hl : l.length ≤ 9223372036854775807) : ∀ (d n : Nat) (g : Int), n + d = l.length → 0 ≤ g → g ≤ n → Ev (fun k => graph_counted.l0 k g l l.length n) (told (great g (l.drop n)))
  | 0, n, g, h, h0, h1 => by
    rw [List.drop_eq_nil_of_le (by omega)]
    refine Ev.step (f := fun _ => some (g, true)) (fun k => ?_) (Ev.now _)
    simp only [graph_counted.l0]
    rw [if_neg (by omega)]
  | d + 1, n, g, h, h0, h1 => by
    have hlt : n < l.length := by omega
    rw [List.drop_eq_getElem_cons hlt]
    simp only [great]
    by_cases he : l[n] < 1 ∨ l[n] > g + 1
    · rw [if_pos he]
      refine Ev.step (f := fun _ => some (0, false)) (fun k => ?_) (Ev.now _)
      simp only [graph_counted.l0]
      rw [if_pos (by omega), if_pos (by omega), if_pos (by omega), rd_get _ _ hlt, w64 (i := g + 1) (by omega) (by omega)]
      by_cases h2 : l[n] < 1
      · rw [if_pos h2]
      · rw [if_neg h2, if_pos (by omega)]
    · rw [if_neg he]
      refine Ev.step (fun k => ?_) (counted_ev l hl d (n + 1) (max g l[n]) (by omega) (by omega) (by omega))
      simp only [graph_counted.l0]
      rw [if_pos (by omega), if_pos (by omega), if_pos (by omega), rd_get _ _ hlt, w64 (i := g + 1) (by omega) (by omega), if_neg (by omega), if_neg (by omega), w64n hlt hl]
      have : mx g l[n] = max g l[n] := by unfold mx; omega
      rw [this]
theorem counted_f (l : List Int) (hl : l.length ≤ 9223372036854775807) : Ev (fun k => graph_counted.f k l) (told (great 0 l)) := counted_ev l hl l.length 0 0 (by omega) (by omega) (by omega)
theorem greatest_ev (l : List Int) (hl : l.length ≤ 9223372036854775807) : ∀ (d n : Nat) (g : Int), n + d = l.length → 0 ≤ g → g ≤ n → Ev (fun k => gatehouseref11_Greatest.l0 k l g n) (told (great g (l.drop n)))
  | 0, n, g, h, h0, h1 => by
    rw [List.drop_eq_nil_of_le (by omega)]
    refine Ev.step (f := fun _ => some (g, true)) (fun k => ?_) (Ev.now _)
    simp only [gatehouseref11_Greatest.l0]
    rw [if_neg (by omega)]
  | d + 1, n, g, h, h0, h1 => by
    have hlt : n < l.length := by omega
    rw [List.drop_eq_getElem_cons hlt]
    simp only [great]
    have first : ∀ k, gatehouseref11_Greatest.l0 (k + 1) l g n = gatehouseref11_Greatest.j1 k l g n (decide (l[n] < 1 ∨ l[n] > g + 1)) := by
      intro k
      simp only [gatehouseref11_Greatest.l0]
      rw [if_pos (by omega), if_pos (by omega), rd_get _ _ hlt, w64 (i := g + 1) (by omega) (by omega)]
      by_cases h2 : l[n] < 1
      · rw [if_pos h2, decide_eq_true (Or.inl h2)]
      · rw [if_neg h2]
        congr 1
        exact decide_eq_decide.2 (by omega)
    refine Ev.step first ?_
    by_cases he : l[n] < 1 ∨ l[n] > g + 1
    · rw [if_pos he]
      refine Ev.step (f := fun _ => some (0, false)) (fun k => ?_) (Ev.now _)
      simp only [gatehouseref11_Greatest.j1]
      rw [if_pos (by simpa using he)]
    · rw [if_neg he]
      refine Ev.step (fun k => ?_) (greatest_ev l hl d (n + 1) (max g l[n]) (by omega) (by omega) (by omega))
      simp only [gatehouseref11_Greatest.j1]
      rw [if_neg (by simpa using he), if_pos (by omega), if_pos (by omega), rd_get _ _ hlt, w64n hlt hl]
      by_cases h2 : l[n] > g
      · rw [if_pos h2, show max g l[n] = l[n] by omega]
      · rw [if_neg h2, show max g l[n] = g by omega]
theorem greatest_f (l : List Int) (hl : l.length ≤ 9223372036854775807) : Ev (fun k => gatehouseref11_Greatest.f k l) (told (great 0 l)) := greatest_ev l hl l.length 0 0 (by omega) (by omega) (by omega)
theorem great_le : ∀ (l : List Int) (g m : Int), great g l = some m → 0 ≤ g → g ≤ m ∧ m ≤ g + l.length
  | [], g, m, h, _ => by simp [great] at h; subst h; simp
  | x :: r, g, m, h, h0 => by
    simp only [great] at h
    split at h
    · cases h
    · have := great_le r _ _ h (by omega)
      simp; omega
end Go.Proofs.Ythaiodklfoegiaa.VPure
