/- The plain law of GraphDecide: what the program's Decide and the document's answer compute over lists is the same, for every graph and triple. -/
import Derived.Test.YthaiodklfoegiaaPGraphDecidex
namespace Go.Proofs.Ythaiodklfoegiaa.DecPure
open Go.RowKit Go.Proofs.Ythaiodklfoegiaa.PGraphDecide Go.Proofs.YthaiodklfoegiaaW.PrintWords Go.Proofs.YthaiodklfoegiaaW.PrintMore

def pos : List ByteArray → ByteArray → Nat → Int
  | [], _, _ => -1
  | x :: r, s, n => if x.toList = s.toList then n else pos r s (n + 1)

theorem pos_range : ∀ (l : List ByteArray) (s : ByteArray) (n : Nat), pos l s n = -1 ∨ ((n : Int) ≤ pos l s n ∧ pos l s n < n + l.length)
  | [], _, _ => .inl rfl
  | x :: r, s, n => by
    simp only [pos]
    split
    · right; simp; omega
    · rcases pos_range r s (n + 1) with h | h
      · exact .inl h
      · right; simp at h ⊢; omega

theorem wrap_small {i : Int} (h0 : -9223372036854775808 ≤ i) (h1 : i ≤ 9223372036854775807) : wrap64 i = i := by
  unfold wrap64; omega

theorem index_l0 (l : List ByteArray) (s : ByteArray) (hl : l.length ≤ 9223372036854775807) (d : Nat) : ∀ (k n : Nat), n + d = l.length → d < k →
    slices_Index_string_string.l0 k l s l.length n = some (pos (l.drop n) s n) := by
  induction d with
  | zero =>
    intro k n hn hk
    obtain ⟨k, rfl⟩ : ∃ m, k = m + 1 := ⟨k - 1, by omega⟩
    rw [List.drop_eq_nil_of_le (by omega)]
    simp only [slices_Index_string_string.l0]
    rw [if_neg (by omega)]; rfl
  | succ d ih =>
    intro k n hn hk
    obtain ⟨k, rfl⟩ : ∃ m, k = m + 1 := ⟨k - 1, by omega⟩
    have hlt : n < l.length := by omega
    rw [List.drop_eq_getElem_cons hlt]
    simp only [slices_Index_string_string.l0, pos]
    rw [if_pos (by omega), if_pos (by omega), if_pos (by omega)]
    have hg : rdOf ByteArray.empty l (n : Int) = l[n] := by simp [rdOf, hlt]
    rw [hg]
    by_cases h : s.toList = l[n].toList
    · rw [if_pos h, if_pos h.symm]
    · rw [if_neg h, if_neg (fun e => h e.symm), wrap_small (by omega) (by omega)]
      exact ih k (n + 1) (by omega) (by omega)

theorem place_l0 (l : List ByteArray) (s : ByteArray) (hl : l.length ≤ 9223372036854775807) (d : Nat) : ∀ (k n : Nat), n + d = l.length → d < k →
    gatehouseref11_place.l0 k l s n = some (pos (l.drop n) s n) := by
  induction d with
  | zero =>
    intro k n hn hk
    obtain ⟨k, rfl⟩ : ∃ m, k = m + 1 := ⟨k - 1, by omega⟩
    rw [List.drop_eq_nil_of_le (by omega)]
    simp only [gatehouseref11_place.l0]
    rw [if_neg (by omega)]; rfl
  | succ d ih =>
    intro k n hn hk
    obtain ⟨k, rfl⟩ : ∃ m, k = m + 1 := ⟨k - 1, by omega⟩
    have hlt : n < l.length := by omega
    rw [List.drop_eq_getElem_cons hlt]
    simp only [gatehouseref11_place.l0, pos]
    rw [if_pos (by omega), if_pos (by omega)]
    have hg : rdOf ByteArray.empty l (n : Int) = l[n] := by simp [rdOf, hlt]
    rw [hg]
    by_cases h : l[n].toList = s.toList
    · rw [if_pos h, if_pos h]
    · rw [if_neg h, if_neg h, wrap_small (by omega) (by omega)]
      exact ih k (n + 1) (by omega) (by omega)

theorem index_f (k : Nat) (l : List ByteArray) (s : ByteArray) (hl : l.length ≤ 9223372036854775807) (hk : l.length < k) : slices_Index_string_string.f k l s = some (pos l s 0) :=
  index_l0 l s hl l.length k 0 (by omega) hk
theorem place_f (k : Nat) (l : List ByteArray) (s : ByteArray) (hl : l.length ≤ 9223372036854775807) (hk : l.length < k) : gatehouseref11_place.f k l s = some (pos l s 0) :=
  place_l0 l s hl l.length k 0 (by omega) hk

theorem half_l0 (x : Int) : ∀ (d k n : Nat) (m : Int), 0 ≤ m → m ≤ 65535 → (n : Int) + d = x → x ≤ 15 → d < k →
    gatehouseref11_Decide.l0 k x m n = some ((m / 2 ^ d) % 2 == 1)
  | 0, k, n, m, h0, h1, hn, hx, hk => by
    obtain ⟨k, rfl⟩ : ∃ m, k = m + 1 := ⟨k - 1, by omega⟩
    simp only [gatehouseref11_Decide.l0]
    rw [if_neg (by omega), Int.tmod_eq_emod_of_nonneg h0]
    simp
  | d + 1, k, n, m, h0, h1, hn, hx, hk => by
    obtain ⟨k, rfl⟩ : ∃ m, k = m + 1 := ⟨k - 1, by omega⟩
    simp only [gatehouseref11_Decide.l0]
    rw [if_pos (by omega), Int.tdiv_eq_ediv_of_nonneg h0, wrap_small (by omega) (by omega), wrap_small (by omega) (by omega)]
    have := half_l0 x d k (n + 1) (m / 2) (by omega) (by omega) (by omega) hx (by omega)
    rw [show ((n : Int) + 1) = ((n + 1 : Nat) : Int) from by omega, this]
    rw [Int.ediv_ediv_of_nonneg (by omega), show (2 : Int) * 2 ^ d = 2 ^ (d + 1) from by rw [Int.pow_succ]; omega]

theorem bv_says (a : BitVec 16) (k : Nat) (hk : k < 16) : (a &&& ~~~(BitVec.twoPow 16 k) = a) ↔ a.getLsbD k = false := by
  constructor
  · intro h
    have := congrArg (fun b => BitVec.getLsbD b k) h
    simp [hk] at this
    exact this
  · intro h
    ext i hi
    simp [BitVec.getElem_twoPow]
    intro hs
    by_cases e : i = k
    · subst e; simp [BitVec.getLsbD_eq_getElem hi] at h; rw [h] at hs; cases hs
    · exact e

theorem one_bit (k : Nat) (hk : k ≤ 15) : BitVec.ofInt 16 (shl .u16 1 (k : Int)) = BitVec.twoPow 16 k := by
  have : ∀ k : Fin 16, BitVec.ofInt 16 (shl .u16 1 (k.val : Int)) = BitVec.twoPow 16 k.val := by decide
  exact this ⟨k, by omega⟩

theorem bit_says (m : Nat) (hm : m ≤ 65535) (k : Nat) (hk : k ≤ 15) : ((Go.bits .andNot .u16 (m : Int) (shl .u16 1 (k : Int))) != (m : Int)) = (((m : Int) / 2 ^ k) % 2 == 1) := by
  have e1 : Go.bits .andNot .u16 (m : Int) (shl .u16 1 (k : Int)) = (((BitVec.ofNat 16 m) &&& ~~~(BitVec.twoPow 16 k)).toNat : Int) := by
    show IntKind.wrap .u16 (((BitVec.ofInt 16 (m : Int)) &&& ~~~(BitVec.ofInt 16 (shl .u16 1 (k : Int)))).toNat : Int) = _
    rw [one_bit k hk, BitVec.ofInt_natCast]
    have h := ((BitVec.ofNat 16 m) &&& ~~~(BitVec.twoPow 16 k)).isLt
    generalize ((BitVec.ofNat 16 m) &&& ~~~(BitVec.twoPow 16 k)).toNat = z at *
    simp only [IntKind.wrap, IntKind.bits, IntKind.signed]
    simp
    omega
  rw [e1]
  have hmm : (BitVec.ofNat 16 m).toNat = m := by simp; omega
  have hbit : (BitVec.ofNat 16 m).getLsbD k = m.testBit k := by rw [BitVec.getLsbD, hmm]
  have ht : ((m : Int) / 2 ^ k) % 2 == 1 ↔ m.testBit k = true := by
    rw [Nat.testBit_eq_decide_div_mod_eq]
    have : ((m : Int) / 2 ^ k) = ((m / 2 ^ k : Nat) : Int) := by simp
    rw [this]
    simp
    omega
  rw [Bool.eq_iff_iff, ht, ← hbit]
  have := bv_says (BitVec.ofNat 16 m) k (by omega)
  have hh : (((BitVec.ofNat 16 m) &&& ~~~(BitVec.twoPow 16 k)).toNat : Int) = m ↔ (BitVec.ofNat 16 m) &&& ~~~(BitVec.twoPow 16 k) = BitVec.ofNat 16 m := by
    constructor
    · intro h
      apply BitVec.eq_of_toNat_eq
      rw [hmm]; omega
    · intro h; rw [h, hmm]
  rw [bne_iff_ne, ne_eq, hh, this]
  simp

theorem at_f (l : List Int) (i : Int) (h : i = -1 ∨ 0 ≤ i) : graph_at.f l i = some (if 0 ≤ i ∧ i < l.length then wrap64 (rd l i - 1) else -1) := by
  unfold graph_at.f
  rcases h with rfl | h
  · rw [if_pos (by omega), if_neg (by omega)]
  · rw [if_neg (by omega)]
    by_cases hl : i < l.length
    · rw [if_neg (by omega), if_pos h, if_pos hl, if_pos ⟨h, hl⟩]
    · rw [if_pos (by omega), if_neg (by omega)]

/-- What both come to. -/
def says (of on : List Int) (masks : List (List Int)) (i j k : Int) : Bool :=
  if 0 ≤ i ∧ i < of.length ∧ 0 ≤ j ∧ j < on.length ∧ 0 ≤ k ∧ k ≤ 15 ∧ 1 ≤ rd of i ∧ rd of i ≤ masks.length ∧ 1 ≤ rd on j ∧ rd on j ≤ (rd_L3 masks (rd of i - 1)).length then
    ((rd (rd_L3 masks (rd of i - 1)) (rd on j - 1)) / 2 ^ k.toNat) % 2 == 1
  else false

theorem rd_u16 {l : List Int} (h : ∀ x ∈ l, 0 ≤ x ∧ x ≤ 65535) (i : Int) : 0 ≤ rd l i ∧ rd l i ≤ 65535 := by
  unfold rd
  rw [List.getD_eq_getElem?_getD]
  cases e : l[i.toNat]? with
  | none => simp
  | some x => simpa using h x (List.mem_of_getElem? e)
theorem rd_L3_u16 {l : List (List Int)} (h : ∀ r ∈ l, ∀ x ∈ r, 0 ≤ x ∧ x ≤ 65535) (i : Int) : ∀ x ∈ rd_L3 l i, 0 ≤ x ∧ x ≤ 65535 := by
  unfold rd_L3
  rw [List.getD_eq_getElem?_getD]
  cases e : l[i.toNat]? with
  | none => simp
  | some r => simpa using h r (List.mem_of_getElem? e)
theorem rd_i64 {l : List Int} (h : ∀ x ∈ l, -9223372036854775808 ≤ x ∧ x ≤ 9223372036854775807) (i : Int) : -9223372036854775808 ≤ rd l i ∧ rd l i ≤ 9223372036854775807 := by
  unfold rd
  rw [List.getD_eq_getElem?_getD]
  cases e : l[i.toNat]? with
  | none => simp
  | some x => simpa using h x (List.mem_of_getElem? e)

section
variable (k : Nat) (la ls lo : List ByteArray) (of on : List Int) (ms : List (List Int)) (s o a : ByteArray)
theorem program (ha : la.length ≤ 9223372036854775807) (hs : ls.length ≤ 9223372036854775807) (ho : lo.length ≤ 9223372036854775807) (hm : ms.length ≤ 9223372036854775807)
    (hr : ∀ i, (rd_L3 ms i).length ≤ 9223372036854775807)
    (hof : ∀ x ∈ of, -9223372036854775808 ≤ x ∧ x ≤ 9223372036854775807) (hon : ∀ x ∈ on, -9223372036854775808 ≤ x ∧ x ≤ 9223372036854775807)
    (hms : ∀ r ∈ ms, ∀ x ∈ r, 0 ≤ x ∧ x ≤ 65535) (hk : la.length < k ∧ ls.length < k ∧ lo.length < k) :
    graph_Decide.f k la ls lo of on ms s o a = some (says of on ms (pos ls s 0) (pos lo o 0) (pos la a 0)) := by
  unfold graph_Decide.f
  rw [index_f k ls s hs (by omega), index_f k lo o ho (by omega), index_f k la a ha (by omega)]
  simp only [Option.bind_some]
  have pi := pos_range ls s 0
  have pj := pos_range lo o 0
  have pk := pos_range la a 0
  generalize pos ls s 0 = i at *
  generalize pos lo o 0 = j at *
  generalize pos la a 0 = q at *
  rw [at_f of i (by omega), at_f on j (by omega)]
  simp only [Option.bind_some]
  have hi := rd_i64 hof i
  have hj := rd_i64 hon j
  unfold says
  by_cases c1 : 0 ≤ i ∧ i < of.length
  case neg => rw [if_neg c1, if_pos (by omega), if_neg (by omega)]
  rw [if_pos c1]
  by_cases c2 : rd of i = -9223372036854775808
  · have : wrap64 (rd of i - 1) = 9223372036854775807 := by rw [c2]; unfold wrap64; omega
    rw [this, if_neg (by omega), if_pos (by omega), if_neg (by omega)]
  rw [wrap_small (i := rd of i - 1) (by omega) (by omega)]
  by_cases c3 : rd of i < 1
  · rw [if_pos (by omega), if_neg (by omega)]
  rw [if_neg (by omega)]
  by_cases c4 : rd of i ≤ ms.length
  case neg => rw [if_pos (by omega), if_neg (by omega)]
  rw [if_neg (by omega)]
  have hrl := hr (rd of i - 1)
  by_cases c5 : 0 ≤ j ∧ j < on.length
  case neg => rw [if_neg c5, if_pos (by omega), if_neg (by omega)]
  rw [if_pos c5]
  by_cases c6 : rd on j = -9223372036854775808
  · have : wrap64 (rd on j - 1) = 9223372036854775807 := by rw [c6]; unfold wrap64; omega
    rw [this, if_neg (by omega), if_pos (by omega), if_pos (by omega), if_pos (by omega), if_neg (by omega)]
  rw [wrap_small (i := rd on j - 1) (by omega) (by omega)]
  by_cases c7 : rd on j < 1
  · rw [if_pos (by omega), if_neg (by omega)]
  rw [if_neg (by omega), if_pos (by omega), if_pos (by omega)]
  by_cases c8 : rd on j ≤ (rd_L3 ms (rd of i - 1)).length
  case neg => rw [if_pos (by omega), if_neg (by omega)]
  rw [if_neg (by omega)]
  by_cases c9 : 0 ≤ q
  case neg => rw [if_pos (by omega), if_neg (by omega)]
  rw [if_neg (by omega)]
  by_cases c10 : q ≤ 15
  case neg => rw [if_pos (by omega), if_neg (by omega)]
  rw [if_neg (by omega), if_pos (by omega), if_pos (by omega), if_pos (by omega), if_pos (by omega)]
  have hb := rd_u16 (rd_L3_u16 hms (rd of i - 1)) (rd on j - 1)
  obtain ⟨m, hm'⟩ := Int.eq_ofNat_of_zero_le hb.1
  obtain ⟨q', rfl⟩ := Int.eq_ofNat_of_zero_le c9
  rw [hm'] at hb ⊢
  rw [bit_says m (by omega) q' (by omega)]
  simp

theorem document (ha : la.length ≤ 9223372036854775807) (hs : ls.length ≤ 9223372036854775807) (ho : lo.length ≤ 9223372036854775807) (_hm : ms.length ≤ 9223372036854775807)
    (hr : ∀ i, (rd_L3 ms i).length ≤ 9223372036854775807)
    (hof : ∀ x ∈ of, -9223372036854775808 ≤ x ∧ x ≤ 9223372036854775807) (hon : ∀ x ∈ on, -9223372036854775808 ≤ x ∧ x ≤ 9223372036854775807)
    (hms : ∀ r ∈ ms, ∀ x ∈ r, 0 ≤ x ∧ x ≤ 65535) (hk : la.length < k ∧ ls.length < k ∧ lo.length < k ∧ 40 ≤ k) :
    gatehouseref11_Decide.f k la ls lo of on ms s o a = some (says of on ms (pos ls s 0) (pos lo o 0) (pos la a 0)) := by
  unfold gatehouseref11_Decide.f
  rw [place_f k ls s hs (by omega), place_f k lo o ho (by omega), place_f k la a ha (by omega)]
  simp only [Option.bind_some]
  have pi := pos_range ls s 0
  have pj := pos_range lo o 0
  have pk := pos_range la a 0
  generalize pos ls s 0 = i at *
  generalize pos lo o 0 = j at *
  generalize pos la a 0 = q at *
  have hi := rd_i64 hof i
  have hj := rd_i64 hon j
  obtain ⟨k, rfl⟩ : ∃ n, k = n + 1 := ⟨k - 1, by omega⟩
  unfold says
  have out : gatehouseref11_Decide.j0 (k + 1) i j q true la ls lo of on ms = some false := by simp only [gatehouseref11_Decide.j0]; rw [if_pos trivial]
  by_cases c1 : i < 0
  · rw [if_pos c1, out, if_neg (by omega)]
  rw [if_neg c1]
  by_cases c2 : j < 0
  · rw [if_pos c2, out, if_neg (by omega)]
  rw [if_neg c2]
  by_cases c3 : q < 0
  · rw [if_pos c3, out, if_neg (by omega)]
  rw [if_neg c3]
  by_cases c4 : q > 15
  · rw [if_pos c4, out, if_neg (by omega)]
  rw [if_neg c4]
  by_cases c5 : i ≥ of.length
  · rw [if_pos c5, out, if_neg (by omega)]
  rw [if_neg c5]
  by_cases c6 : j ≥ on.length
  · rw [decide_eq_true c6, out, if_neg (by omega)]
  rw [decide_eq_false c6]
  obtain ⟨k, rfl⟩ : ∃ n, k = n + 1 := ⟨k - 1, by omega⟩
  simp only [gatehouseref11_Decide.j0]
  rw [if_neg (by simp), if_pos (by omega), if_pos (by omega), if_pos (by omega), if_pos (by omega)]
  have out : gatehouseref11_Decide.j1 (k + 1) q (rd of i) (rd on j) true la ls lo of on ms = some false := by simp only [gatehouseref11_Decide.j1]; rw [if_pos trivial]
  by_cases c7 : rd of i < 1
  · rw [if_pos c7, out, if_neg (by omega)]
  rw [if_neg c7]
  by_cases c8 : rd of i > ms.length
  · rw [if_pos c8, out, if_neg (by omega)]
  rw [if_neg c8]
  by_cases c9 : rd on j < 1
  · rw [if_pos c9, out, if_neg (by omega)]
  rw [if_neg c9, wrap_small (i := rd of i - 1) (by omega) (by omega), if_pos (by omega), if_pos (by omega)]
  by_cases c10 : rd on j > (rd_L3 ms (rd of i - 1)).length
  · rw [decide_eq_true c10, out, if_neg (by omega)]
  rw [decide_eq_false c10]
  have hrl := hr (rd of i - 1)
  simp only [gatehouseref11_Decide.j1]
  rw [wrap_small (i := rd of i - 1) (by omega) (by omega), wrap_small (i := rd on j - 1) (by omega) (by omega)]
  rw [if_neg (by simp), if_pos (by omega), if_pos (by omega), if_pos (by omega), if_pos (by omega), if_pos (by omega)]
  have hb := rd_u16 (rd_L3_u16 hms (rd of i - 1)) (rd on j - 1)
  rw [wrap_small (by omega) (by omega)]
  have := half_l0 q q.toNat k 0 _ hb.1 hb.2 (by omega) (by omega) (by omega)
  simpa using this
end

/-- The law. -/
theorem GraphDecide (la ls lo : List ByteArray) (of on : List Int) (ms : List (List Int)) (s o a : ByteArray)
    (ha : la.length ≤ 9223372036854775807) (hs : ls.length ≤ 9223372036854775807) (ho : lo.length ≤ 9223372036854775807) (hm : ms.length ≤ 9223372036854775807)
    (hr : ∀ i, (rd_L3 ms i).length ≤ 9223372036854775807)
    (hof : ∀ x ∈ of, -9223372036854775808 ≤ x ∧ x ≤ 9223372036854775807) (hon : ∀ x ∈ on, -9223372036854775808 ≤ x ∧ x ≤ 9223372036854775807)
    (hms : ∀ r ∈ ms, ∀ x ∈ r, 0 ≤ x ∧ x ≤ 65535) : ∃ k, gatehouselaw11_GraphDecide.f k la ls lo of on ms s o a = some true := by
  refine ⟨la.length + ls.length + lo.length + 50, ?_⟩
  unfold gatehouselaw11_GraphDecide.f
  rw [program _ la ls lo of on ms s o a ha hs ho hm hr hof hon hms (by omega), document _ la ls lo of on ms s o a ha hs ho hm hr hof hon hms (by omega)]
  simp

end Go.Proofs.Ythaiodklfoegiaa.DecPure
