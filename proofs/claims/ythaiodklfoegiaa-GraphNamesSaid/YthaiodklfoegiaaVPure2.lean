/- The document's Valid in plain words. -/
import Derived.Test.YthaiodklfoegiaaVPure
namespace Go.Proofs.Ythaiodklfoegiaa.VPure
open Go.RowKit Go.Proofs.Ythaiodklfoegiaa.PG Go.Proofs.YthaiodklfoegiaaW.PrintWords Go.Proofs.YthaiodklfoegiaaW.PrintMore
open Classical

def column (ms : List (List Int)) (j : Nat) : List Int := ms.map (·.getD j 0)
def cols (ms : List (List Int)) (m : Nat) : List (List Int) := (List.range m).map (column ms)
def shapeP (b n m : Nat) (ms : List (List Int)) : Prop := ms.length = n ∧ ∀ row ∈ ms, row.length = m ∧ ∀ x ∈ row, x < 2 ^ b
def validP (la ls lo : List ByteArray) (of on : List Int) (ms : List (List Int)) : Prop :=
  la.length ≤ 16 ∧ ls.length ≤ 64 ∧ lo.length ≤ 64 ∧ of.length = ls.length ∧ on.length = lo.length ∧ (nm la).Nodup ∧ (nm ls).Nodup ∧ (nm lo).Nodup ∧
    ∃ n m : Nat, great 0 of = some (n : Int) ∧ great 0 on = some (m : Int) ∧ shapeP la.length n m ms ∧ ms.Nodup ∧ (cols ms m).Nodup
noncomputable def validB (la ls lo : List ByteArray) (of on : List Int) (ms : List (List Int)) : Bool := decide (validP la ls lo of on ms)

section
variable (la ls lo : List ByteArray) (of on : List Int) (ms : List (List Int))

theorem equal_ev (a b : List Int) (hl : a.length = b.length) (hb : a.length ≤ 9223372036854775807) : ∀ (d n : Nat), n + d = a.length → a.take n = b.take n → Ev (fun k => gatehouseref11_equal.l0 k a b n) (decide (a = b))
  | 0, n, h, hn => by
    refine Ev.step (f := fun _ => some true) (fun k => ?_) ?_
    · simp only [gatehouseref11_equal.l0]
      rw [if_neg (by omega)]
    · rw [List.take_of_length_le (by omega), List.take_of_length_le (by omega)] at hn
      rw [decide_eq_true hn]; exact Ev.now _
  | d + 1, n, h, hn => by
    have ha : n < a.length := by omega
    have hb' : n < b.length := by omega
    by_cases he : a[n] = b[n]
    · refine Ev.step (fun k => ?_) (equal_ev a b hl hb d (n + 1) (by omega) ?_)
      · simp only [gatehouseref11_equal.l0]
        rw [if_pos (by omega), if_pos (by omega), if_pos (by omega), rd_get _ _ ha, rd_get _ _ hb', if_pos he, w64n ha hb]
      · rw [List.take_succ_eq_append_getElem ha, List.take_succ_eq_append_getElem hb', hn, he]
    · refine Ev.step (f := fun _ => some false) (fun k => ?_) ?_
      · simp only [gatehouseref11_equal.l0]
        rw [if_pos (by omega), if_pos (by omega), if_pos (by omega), rd_get _ _ ha, rd_get _ _ hb', if_neg he]
      · rw [decide_eq_false (by rintro rfl; exact he rfl)]; exact Ev.now _
theorem equal_f (a b : List Int) (hb : a.length ≤ 9223372036854775807) : Ev (fun k => gatehouseref11_equal.f k a b) (decide (a = b)) := by
  by_cases h : a.length = b.length
  · refine Ev.congr (fun k => ?_) (equal_ev a b h hb a.length 0 (by omega) (by simp))
    unfold gatehouseref11_equal.f
    rw [if_pos (by omega)]; rfl
  · refine Ev.congr (f := fun _ => some false) (fun k => ?_) ?_
    · unfold gatehouseref11_equal.f
      rw [if_neg (by omega)]
    · rw [decide_eq_false (by rintro rfl; exact h rfl)]; exact Ev.now _

theorem column_ev (j : Nat) (hm : ms.length ≤ 64) (hj : ∀ row ∈ ms, j < row.length) : ∀ (d n : Nat), n + d = ms.length → Ev (fun k => gatehouseref11_column.l0 k ms j (column (ms.take n) j) n) (column ms j)
  | 0, n, h => by
    rw [List.take_of_length_le (by omega)]
    refine Ev.step (f := fun _ => some _) (fun k => ?_) (Ev.now _)
    simp only [gatehouseref11_column.l0]
    rw [if_neg (by omega)]
  | d + 1, n, h => by
    have hlt : n < ms.length := by omega
    have hr := hj ms[n] (List.getElem_mem hlt)
    refine Ev.step (fun k => ?_) (column_ev j hm hj d (n + 1) (by omega))
    simp only [gatehouseref11_column.l0]
    rw [if_pos (by omega), if_pos (by omega), if_pos (by omega), rd_L3_get _ _ hlt, if_pos (by omega), if_pos (by simp [column]; omega), rd_get _ _ hr, w64n hlt (by omega)]
    have e : column (ms.take (n + 1)) j = column (ms.take n) j ++ [ms[n][j]] := by
      rw [List.take_succ_eq_append_getElem hlt]
      simp only [column, List.map_append, List.map_cons, List.map_nil]
      simp [hr]
    rw [e]
theorem column_f (j : Nat) (hm : ms.length ≤ 64) (hj : ∀ row ∈ ms, j < row.length) : Ev (fun k => gatehouseref11_column.f k ms j) (column ms j) := column_ev ms j hm hj ms.length 0 (by omega)

/-- The shape. -/
theorem shaped_l2 (M i : Nat) (m : Nat) (hi : i < ms.length) (hm : ms[i].length = m) (hM : M ≤ 65536) (h63 : m ≤ 9223372036854775807) (hu : ∀ x ∈ ms[i], 0 ≤ x ∧ x ≤ 65535) (nn : Int) (r : Bool)
    (hc : (∀ x ∈ ms[i], x < M) → Ev (fun k => gatehouseref11_shaped.l1 k nn m M ((i + 1 : Nat) : Int) la ls lo of on ms) r) (hf : ¬ (∀ x ∈ ms[i], x < M) → r = false) (hil : ms.length ≤ 9223372036854775807) :
    ∀ (d n : Nat), n + d = m → (∀ x ∈ ms[i].take n, x < M) → Ev (fun k => gatehouseref11_shaped.l2 k nn m M i n la ls lo of on ms) r
  | 0, n, h, hn => by
    rw [List.take_of_length_le (by omega)] at hn
    refine Ev.step (fun k => ?_) (hc hn)
    simp only [gatehouseref11_shaped.l2]
    rw [if_neg (by omega), w64n hi hil]
  | d + 1, n, h, hn => by
    have hlt : n < ms[i].length := by omega
    have hx := hu ms[i][n] (List.getElem_mem hlt)
    by_cases he : ms[i][n] < M
    · refine Ev.step (fun k => ?_) (shaped_l2 M i m hi hm hM h63 hu nn r hc hf hil d (n + 1) (by omega) ?_)
      · simp only [gatehouseref11_shaped.l2]
        rw [if_pos (by omega), if_pos (by omega), if_pos (by omega), if_pos (by omega), rd_L3_get _ _ hi, if_pos (by omega), rd_get _ _ hlt, w64 (by omega) (by omega), if_neg (by omega), w64n (m := m) (by omega) h63]
      · rw [List.take_succ_eq_append_getElem hlt]
        intro x hx
        rcases List.mem_append.1 hx with hx | hx
        · exact hn x hx
        · rw [List.mem_singleton.1 hx]; exact he
    · rw [hf (fun h => he (h _ (List.getElem_mem hlt)))]
      refine Ev.step (f := fun _ => some false) (fun k => ?_) (Ev.now _)
      simp only [gatehouseref11_shaped.l2]
      rw [if_pos (by omega), if_pos (by omega), if_pos (by omega), if_pos (by omega), rd_L3_get _ _ hi, if_pos (by omega), rd_get _ _ hlt, w64 (by omega) (by omega), if_pos (by omega)]
theorem shaped_l1 (M m : Nat) (hM : M ≤ 65536) (h63 : m ≤ 9223372036854775807) (hu : ∀ row ∈ ms, ∀ x ∈ row, 0 ≤ x ∧ x ≤ 65535) (hil : ms.length ≤ 9223372036854775807) :
    ∀ (d i : Nat), i + d = ms.length → (∀ row ∈ ms.take i, row.length = m ∧ ∀ x ∈ row, x < M) → Ev (fun k => gatehouseref11_shaped.l1 k ms.length m M i la ls lo of on ms) (decide (∀ row ∈ ms, row.length = m ∧ ∀ x ∈ row, x < M))
  | 0, i, h, hn => by
    rw [List.take_of_length_le (by omega)] at hn
    rw [decide_eq_true hn]
    refine Ev.step (f := fun _ => some true) (fun k => ?_) (Ev.now _)
    simp only [gatehouseref11_shaped.l1]
    rw [if_neg (by omega)]
  | d + 1, i, h, hn => by
    have hlt : i < ms.length := by omega
    have hmem := List.getElem_mem hlt
    by_cases he : ms[i].length = m
    · refine Ev.step (f := fun k => gatehouseref11_shaped.l2 k ms.length m M i ((0 : Nat) : Int) la ls lo of on ms) (fun k => ?_) ?_
      · simp only [gatehouseref11_shaped.l1]
        rw [if_pos (by omega), if_pos (by omega), if_pos (by omega), rd_L3_get _ _ hlt, if_pos (by omega)]; rfl
      · refine shaped_l2 la ls lo of on ms M i m hlt he hM h63 (hu _ hmem) _ _ (fun hall => ?_) (fun hno => ?_) hil m 0 (by omega) (by simp)
        · refine shaped_l1 M m hM h63 hu hil d (i + 1) (by omega) ?_
          rw [List.take_succ_eq_append_getElem hlt]
          intro row hrow
          rcases List.mem_append.1 hrow with hrow | hrow
          · exact hn row hrow
          · rw [List.mem_singleton.1 hrow]; exact ⟨he, hall⟩
        · exact decide_eq_false (fun hq => hno (hq _ hmem).2)
    · rw [decide_eq_false (fun hq => he (hq _ hmem).1)]
      refine Ev.step (f := fun _ => some false) (fun k => ?_) (Ev.now _)
      simp only [gatehouseref11_shaped.l1]
      rw [if_pos (by omega), if_pos (by omega), if_pos (by omega), rd_L3_get _ _ hlt, if_neg (by omega)]
theorem shaped_l0 (nn m : Int) (hla : la.length ≤ 16) (r : Bool) (hc : Ev (fun k => gatehouseref11_shaped.l1 k nn m ((2 ^ la.length : Nat) : Int) ((0 : Nat) : Int) la ls lo of on ms) r) :
    ∀ (d n : Nat), n + d = la.length → Ev (fun k => gatehouseref11_shaped.l0 k nn m ((2 ^ n : Nat) : Int) n la ls lo of on ms) r
  | 0, n, h => by
    have : n = la.length := by omega
    subst this
    refine Ev.step (fun k => ?_) hc
    simp only [gatehouseref11_shaped.l0]
    rw [if_neg (by omega)]; rfl
  | d + 1, n, h => by
    refine Ev.step (fun k => ?_) (shaped_l0 nn m hla r hc d (n + 1) (by omega))
    simp only [gatehouseref11_shaped.l0]
    have h1 : 2 ^ n ≤ 2 ^ 16 := Nat.pow_le_pow_right (by omega) (by omega)
    rw [if_pos (by omega), w64n (m := 17) (by omega) (by omega), Nat.pow_succ]
    generalize 2 ^ n = p at *
    rw [w64 (by omega) (by omega)]
    congr 1
    omega
theorem shaped_f (n m : Nat) (hla : la.length ≤ 16) (h63 : m ≤ 9223372036854775807) (hu : ∀ row ∈ ms, ∀ x ∈ row, 0 ≤ x ∧ x ≤ 65535) (hil : ms.length ≤ 9223372036854775807) :
    Ev (fun k => gatehouseref11_shaped.f k la ls lo of on ms n m) (decide (shapeP la.length n m ms)) := by
  by_cases h : ms.length = n
  · subst h
    refine Ev.congr (f := fun k => gatehouseref11_shaped.l0 k ms.length m ((2 ^ 0 : Nat) : Int) ((0 : Nat) : Int) la ls lo of on ms) (fun k => ?_) ?_
    · unfold gatehouseref11_shaped.f
      rw [if_pos rfl]; rfl
    · refine shaped_l0 la ls lo of on ms _ _ hla _ ?_ la.length 0 (by omega)
      have h1 : 2 ^ la.length ≤ 2 ^ 16 := Nat.pow_le_pow_right (by omega) hla
      have := shaped_l1 la ls lo of on ms (2 ^ la.length) m (by omega) h63 hu hil ms.length 0 (by omega) (by simp)
      have e : decide (shapeP la.length ms.length m ms) = decide (∀ row ∈ ms, row.length = m ∧ ∀ x ∈ row, x < ((2 ^ la.length : Nat) : Int)) := decide_eq_decide.2 (by simp [shapeP])
      rw [e]
      exact this
  · refine Ev.congr (f := fun _ => some false) (fun k => ?_) ?_
    · unfold gatehouseref11_shaped.f
      rw [if_neg (by omega)]
    · rw [decide_eq_false (fun hq => h hq.1)]; exact Ev.now _

/-- No two columns. -/
theorem valid_l3 (m j : Nat) (hj : j < m) (hm64 : m ≤ 64) (hl : ms.length ≤ 64) (hrow : ∀ row ∈ ms, row.length = m) (r : Bool)
    (hc : column ms j ∉ (cols ms m).take j → Ev (fun k => gatehouseref11_Valid.l2 k m ((j + 1 : Nat) : Int) la ls lo of on ms) r) (hf : column ms j ∈ (cols ms m).take j → r = false) :
    ∀ (d n : Nat), n + d = j → column ms j ∉ (cols ms m).take n → Ev (fun k => gatehouseref11_Valid.l3 k m j n la ls lo of on ms) r
  | 0, n, h, hn => by
    have : n = j := by omega
    subst this
    refine Ev.step (fun k => ?_) (hc hn)
    simp only [gatehouseref11_Valid.l3]
    rw [if_neg (by omega), w64n hj (by omega)]
  | d + 1, n, h, hn => by
    have hcn : n < (cols ms m).length := by simp [cols]; omega
    have hgn : (cols ms m)[n] = column ms n := by simp [cols]
    refine Ev.step (f := fun k => (gatehouseref11_column.f k ms j).bind fun a => (gatehouseref11_column.f k ms n).bind fun b => (gatehouseref11_equal.f k a b).bind fun t => if t = true then some false else gatehouseref11_Valid.l3 k m j ((n + 1 : Nat) : Int) la ls lo of on ms) (fun k => ?_) ?_
    · simp only [gatehouseref11_Valid.l3]
      rw [if_pos (by omega), w64n (m := m) (by omega) (by omega)]
    · refine Ev.bind (f := fun k a => (gatehouseref11_column.f k ms n).bind fun b => (gatehouseref11_equal.f k a b).bind fun t => if t = true then some false else gatehouseref11_Valid.l3 k m j ((n + 1 : Nat) : Int) la ls lo of on ms) (column_f ms j hl (fun row h => by rw [hrow row h]; exact hj)) ?_
      refine Ev.bind (f := fun k b => (gatehouseref11_equal.f k (column ms j) b).bind fun t => if t = true then some false else gatehouseref11_Valid.l3 k m j ((n + 1 : Nat) : Int) la ls lo of on ms) (column_f ms n hl (fun row h => by rw [hrow row h]; omega)) ?_
      refine Ev.bind (f := fun k t => if t = true then some false else gatehouseref11_Valid.l3 k m j ((n + 1 : Nat) : Int) la ls lo of on ms) (equal_f (column ms j) (column ms n) (by simp [column]; omega)) ?_
      by_cases he : column ms j = column ms n
      · simp only [decide_eq_true he, if_true]
        rw [hf (by rw [he, ← hgn, List.mem_take_iff_getElem]; exact ⟨n, by omega, rfl⟩)]
        exact Ev.now _
      · simp only [decide_eq_false he, Bool.false_eq_true, if_false]
        refine valid_l3 m j hj hm64 hl hrow r hc hf d (n + 1) (by omega) ?_
        rw [List.take_succ_eq_append_getElem hcn, List.mem_append, List.mem_singleton, hgn]
        rintro (h1 | h1)
        · exact hn h1
        · exact he h1
theorem nodup_snoc {α : Type} {l : List α} {n : Nat} (hn : n < l.length) (h : (l.take n).Nodup) (hm : l[n] ∉ l.take n) : (l.take (n + 1)).Nodup := by
  rw [List.take_succ_eq_append_getElem hn, List.nodup_append]
  refine ⟨h, by simp, ?_⟩
  intro a ha b hb e
  simp at hb
  subst hb
  subst e
  exact hm ha
theorem not_nodup {α : Type} {l : List α} {n : Nat} (hn : n < l.length) (hm : l[n] ∈ l.take n) : ¬ l.Nodup := by
  intro hnd
  obtain ⟨i, hi, he⟩ := List.getElem_of_mem hm
  rw [List.getElem_take] at he
  simp at hi
  have := (List.getElem_inj hnd).1 he
  omega
theorem valid_l2 (m : Nat) (hm64 : m ≤ 64) (hl : ms.length ≤ 64) (hrow : ∀ row ∈ ms, row.length = m) :
    ∀ (d j : Nat), j + d = m → ((cols ms m).take j).Nodup → Ev (fun k => gatehouseref11_Valid.l2 k m j la ls lo of on ms) (decide (cols ms m).Nodup)
  | 0, j, h, hn => by
    rw [List.take_of_length_le (by simp [cols]; omega)] at hn
    rw [decide_eq_true hn]
    refine Ev.step (f := fun _ => some true) (fun k => ?_) (Ev.now _)
    simp only [gatehouseref11_Valid.l2]
    rw [if_neg (by omega)]
  | d + 1, j, h, hn => by
    have hcn : j < (cols ms m).length := by simp [cols]; omega
    have hgn : (cols ms m)[j] = column ms j := by simp [cols]
    refine Ev.step (f := fun k => gatehouseref11_Valid.l3 k m j ((0 : Nat) : Int) la ls lo of on ms) (fun k => ?_) ?_
    · simp only [gatehouseref11_Valid.l2]
      rw [if_pos (by omega)]; rfl
    · refine valid_l3 la ls lo of on ms m j (by omega) hm64 hl hrow _ (fun hno => ?_) (fun hin => ?_) j 0 (by omega) (by simp)
      · exact valid_l2 m hm64 hl hrow d (j + 1) (by omega) (nodup_snoc hcn hn (by rw [hgn]; exact hno))
      · exact decide_eq_false (not_nodup hcn (by rw [hgn]; exact hin))
/-- No two rows. -/
theorem valid_l1 (m : Int) (i : Nat) (hi : i < ms.length) (hl : ms.length ≤ 64) (hrow : ∀ row ∈ ms, row.length ≤ 64) (r : Bool)
    (hc : ms[i] ∉ ms.take i → Ev (fun k => gatehouseref11_Valid.l0 k ms.length m ((i + 1 : Nat) : Int) la ls lo of on ms) r) (hf : ms[i] ∈ ms.take i → r = false) :
    ∀ (d n : Nat), n + d = i → ms[i] ∉ ms.take n → Ev (fun k => gatehouseref11_Valid.l1 k ms.length m i n la ls lo of on ms) r
  | 0, n, h, hn => by
    have : n = i := by omega
    subst this
    refine Ev.step (fun k => ?_) (hc hn)
    simp only [gatehouseref11_Valid.l1]
    rw [if_neg (by omega), w64n hi (by omega)]
  | d + 1, n, h, hn => by
    have hlt : n < ms.length := by omega
    refine Ev.step (f := fun k => (gatehouseref11_equal.f k ms[i] ms[n]).bind fun t => if t = true then some false else gatehouseref11_Valid.l1 k ms.length m i ((n + 1 : Nat) : Int) la ls lo of on ms) (fun k => ?_) ?_
    · simp only [gatehouseref11_Valid.l1]
      rw [if_pos (by omega), if_pos (by omega), if_pos (by omega), if_pos (by omega), if_pos (by omega), rd_L3_get _ _ hi, rd_L3_get _ _ hlt, w64n hlt (by omega)]
    · refine Ev.bind (f := fun k t => if t = true then some false else gatehouseref11_Valid.l1 k ms.length m i ((n + 1 : Nat) : Int) la ls lo of on ms) (equal_f ms[i] ms[n] (by have := hrow _ (List.getElem_mem hi); omega)) ?_
      by_cases he : ms[i] = ms[n]
      · simp only [decide_eq_true he, if_true]
        rw [hf (by rw [he, List.mem_take_iff_getElem]; exact ⟨n, by omega, rfl⟩)]
        exact Ev.now _
      · simp only [decide_eq_false he, Bool.false_eq_true, if_false]
        refine valid_l1 m i hi hl hrow r hc hf d (n + 1) (by omega) ?_
        rw [List.take_succ_eq_append_getElem hlt, List.mem_append, List.mem_singleton]
        rintro (h1 | h1)
        · exact hn h1
        · exact he h1
theorem valid_l0 (m : Nat) (hm64 : m ≤ 64) (hl : ms.length ≤ 64) (hrow : ∀ row ∈ ms, row.length = m) :
    ∀ (d i : Nat), i + d = ms.length → (ms.take i).Nodup → Ev (fun k => gatehouseref11_Valid.l0 k ms.length m i la ls lo of on ms) (decide (ms.Nodup ∧ (cols ms m).Nodup))
  | 0, i, h, hn => by
    rw [List.take_of_length_le (by omega)] at hn
    have e : decide (ms.Nodup ∧ (cols ms m).Nodup) = decide (cols ms m).Nodup := decide_eq_decide.2 (by simp [hn])
    rw [e]
    refine Ev.step (fun k => ?_) (valid_l2 la ls lo of on ms m hm64 hl hrow m 0 (by omega) (by simp))
    simp only [gatehouseref11_Valid.l0]
    rw [if_neg (by omega)]; rfl
  | d + 1, i, h, hn => by
    have hlt : i < ms.length := by omega
    refine Ev.step (f := fun k => gatehouseref11_Valid.l1 k ms.length m i ((0 : Nat) : Int) la ls lo of on ms) (fun k => ?_) ?_
    · simp only [gatehouseref11_Valid.l0]
      rw [if_pos (by omega)]; rfl
    · refine valid_l1 la ls lo of on ms m i hlt hl (fun row h => by rw [hrow row h]; exact hm64) _ (fun hno => ?_) (fun hin => ?_) i 0 (by omega) (by simp)
      · exact valid_l0 m hm64 hl hrow d (i + 1) (by omega) (nodup_snoc hlt hn hno)
      · exact decide_eq_false (fun hq => not_nodup hlt hin hq.1)

theorem great_nat {l : List Int} {x : Int} (h : great 0 l = some x) : ∃ n : Nat, x = n ∧ n ≤ l.length := by
  have := great_le l 0 x h (by omega)
  exact ⟨x.toNat, by omega, by omega⟩

/-- The document's Valid. -/
theorem ref_valid (hu : ∀ row ∈ ms, ∀ x ∈ row, 0 ≤ x ∧ x ≤ 65535) (h1 : la.length ≤ 9223372036854775807) (h2 : ls.length ≤ 9223372036854775807) (h3 : lo.length ≤ 9223372036854775807) (h4 : of.length ≤ 9223372036854775807) (h5 : on.length ≤ 9223372036854775807)
    (hil : ms.length ≤ 9223372036854775807) : Ev (fun k => gatehouseref11_Valid.f k la ls lo of on ms) (validB la ls lo of on ms) := by
  have hbad : Ev (fun k => gatehouseref11_Valid.j0 k true la ls lo of on ms) false := by
    refine Ev.step (f := fun _ => some false) (fun k => ?_) (Ev.now _)
    simp only [gatehouseref11_Valid.j0]
    rw [if_pos trivial]
  by_cases c : la.length ≤ 16 ∧ ls.length ≤ 64 ∧ lo.length ≤ 64 ∧ of.length = ls.length ∧ on.length = lo.length
  case neg =>
    have : validB la ls lo of on ms = false := decide_eq_false (fun h => c ⟨h.1, h.2.1, h.2.2.1, h.2.2.2.1, h.2.2.2.2.1⟩)
    rw [this]
    refine Ev.congr (fun k => ?_) hbad
    unfold gatehouseref11_Valid.f
    by_cases c1 : (la.length : Int) > 16
    · rw [if_pos c1]
    rw [if_neg c1]
    by_cases c2 : (ls.length : Int) > 64
    · rw [if_pos c2]
    rw [if_neg c2]
    by_cases c3 : (lo.length : Int) > 64
    · rw [if_pos c3]
    rw [if_neg c3]
    by_cases c4 : (of.length : Int) = ls.length
    · rw [if_pos c4]
      congr 1
      rw [bne_iff_ne]; omega
    · rw [if_neg c4]
  obtain ⟨c1, c2, c3, c4, c5⟩ := c
  have out : Ev (fun k => gatehouseref11_Valid.j1 k (told (great 0 of)).1 (told (great 0 on)).1 true la ls lo of on ms) false := by
    refine Ev.step (f := fun _ => some false) (fun k => ?_) (Ev.now _)
    simp only [gatehouseref11_Valid.j1]
    rw [if_pos trivial]
  refine Ev.congr (f := fun k => gatehouseref11_Valid.j0 k false la ls lo of on ms) (fun k => ?_) ?_
  · unfold gatehouseref11_Valid.f
    rw [if_neg (by omega), if_neg (by omega), if_neg (by omega), if_pos (by omega)]
    congr 1
    rw [bne_eq_false_iff_eq]; omega
  let tail : Nat → Bool → Bool → Bool → Int × Bool → Int × Bool → Option Bool := fun k t125 t126 t127 p q =>
    if t125 = true then gatehouseref11_Valid.j1 k p.1 q.1 true la ls lo of on ms else if t126 = true then gatehouseref11_Valid.j1 k p.1 q.1 true la ls lo of on ms else if t127 = true then gatehouseref11_Valid.j1 k p.1 q.1 true la ls lo of on ms else
      if p.2 = true then gatehouseref11_Valid.j1 k p.1 q.1 (!q.2) la ls lo of on ms else gatehouseref11_Valid.j1 k p.1 q.1 true la ls lo of on ms
  refine Ev.step (f := fun k => (gatehouseref11_twice.f k la).bind fun a => (gatehouseref11_twice.f k ls).bind fun b => (gatehouseref11_twice.f k lo).bind fun c => (gatehouseref11_Greatest.f k of).bind fun p => (gatehouseref11_Greatest.f k on).bind fun q => tail k a b c p q) (fun k => ?_) ?_
  · simp only [gatehouseref11_Valid.j0]
    rw [if_neg (by simp)]
  refine Ev.bind (f := fun k a => (gatehouseref11_twice.f k ls).bind fun b => (gatehouseref11_twice.f k lo).bind fun c => (gatehouseref11_Greatest.f k of).bind fun p => (gatehouseref11_Greatest.f k on).bind fun q => tail k a b c p q) (twice_f la h1) ?_
  refine Ev.bind (f := fun k b => (gatehouseref11_twice.f k lo).bind fun c => (gatehouseref11_Greatest.f k of).bind fun p => (gatehouseref11_Greatest.f k on).bind fun q => tail k (!onceB la) b c p q) (twice_f ls h2) ?_
  refine Ev.bind (f := fun k c => (gatehouseref11_Greatest.f k of).bind fun p => (gatehouseref11_Greatest.f k on).bind fun q => tail k (!onceB la) (!onceB ls) c p q) (twice_f lo h3) ?_
  refine Ev.bind (f := fun k p => (gatehouseref11_Greatest.f k on).bind fun q => tail k (!onceB la) (!onceB ls) (!onceB lo) p q) (greatest_f of h4) ?_
  refine Ev.bind (f := fun k q => tail k (!onceB la) (!onceB ls) (!onceB lo) (told (great 0 of)) q) (greatest_f on h5) ?_
  by_cases d : (nm la).Nodup ∧ (nm ls).Nodup ∧ (nm lo).Nodup
  case neg =>
    have : validB la ls lo of on ms = false := decide_eq_false (fun h => d ⟨h.2.2.2.2.2.1, h.2.2.2.2.2.2.1, h.2.2.2.2.2.2.2.1⟩)
    rw [this]
    refine Ev.congr (fun k => ?_) out
    show tail k _ _ _ _ _ = _
    simp only [tail, onceB]
    by_cases d1 : (nm la).Nodup
    · by_cases d2 : (nm ls).Nodup
      · have d3 : ¬ (nm lo).Nodup := fun d3 => d ⟨d1, d2, d3⟩
        simp [d1, d2, d3]
      · simp [d1, d2]
    · simp [d1]
  obtain ⟨d1, d2, d3⟩ := d
  have plain : ∀ k p q, tail k (!onceB la) (!onceB ls) (!onceB lo) p q = if p.2 = true then gatehouseref11_Valid.j1 k p.1 q.1 (!q.2) la ls lo of on ms else gatehouseref11_Valid.j1 k p.1 q.1 true la ls lo of on ms := by
    intro k p q
    simp only [tail, onceB, decide_eq_true d1, decide_eq_true d2, decide_eq_true d3]
    rfl
  refine Ev.congr (fun k => plain k _ _) ?_
  cases e1 : great 0 of with
  | none =>
    have : validB la ls lo of on ms = false := decide_eq_false (fun h => by obtain ⟨n, m, hn, _⟩ := h.2.2.2.2.2.2.2.2; rw [e1] at hn; cases hn)
    rw [this]
    rw [e1] at out
    exact out
  | some x =>
    cases e2 : great 0 on with
    | none =>
      have : validB la ls lo of on ms = false := decide_eq_false (fun h => by obtain ⟨n, m, hn, hm, _⟩ := h.2.2.2.2.2.2.2.2; rw [e2] at hm; cases hm)
      rw [this]
      rw [e1, e2] at out
      exact out
    | some y =>
      obtain ⟨n, rfl, hn⟩ := great_nat e1
      obtain ⟨m, rfl, hm⟩ := great_nat e2
      refine Ev.step (f := fun k => (gatehouseref11_shaped.f k la ls lo of on ms n m).bind fun t => if t = true then gatehouseref11_Valid.l0 k n m ((0 : Nat) : Int) la ls lo of on ms else some false) (fun k => ?_) ?_
      · simp only [told, Option.getD_some, Option.isSome_some, Bool.not_true, gatehouseref11_Valid.j1, if_true]
        rw [if_neg (by simp)]; rfl
      refine Ev.bind (f := fun k t => if t = true then gatehouseref11_Valid.l0 k n m ((0 : Nat) : Int) la ls lo of on ms else some false) (shaped_f la ls lo of on ms n m c1 (by omega) hu hil) ?_
      have he : validB la ls lo of on ms = decide (shapeP la.length n m ms ∧ ms.Nodup ∧ (cols ms m).Nodup) := by
        refine decide_eq_decide.2 ⟨fun h => ?_, fun h => ⟨c1, c2, c3, c4, c5, d1, d2, d3, n, m, e1, e2, h⟩⟩
        obtain ⟨n', m', hn', hm', hh⟩ := h.2.2.2.2.2.2.2.2
        rw [e1] at hn'
        rw [e2] at hm'
        have hn1 : n' = n := by injection hn' with hn'; omega
        have hm1 : m' = m := by injection hm' with hm'; omega
        subst hn1
        subst hm1
        exact hh
      by_cases hs : shapeP la.length n m ms
      · simp only [decide_eq_true hs, if_true]
        have he2 : validB la ls lo of on ms = decide (ms.Nodup ∧ (cols ms m).Nodup) := he.trans (decide_eq_decide.2 (by simp [hs]))
        rw [he2]
        have := valid_l0 la ls lo of on ms m (by omega) (by have := hs.1; omega) (fun row h => (hs.2 row h).1) ms.length 0 (by omega) (by simp)
        rw [hs.1] at this
        exact this
      · simp only [decide_eq_false hs, Bool.false_eq_true, if_false]
        have he2 : validB la ls lo of on ms = false := he.trans (decide_eq_false (fun h => hs h.1))
        rw [he2]
        exact Ev.now _
end
end Go.Proofs.Ythaiodklfoegiaa.VPure
