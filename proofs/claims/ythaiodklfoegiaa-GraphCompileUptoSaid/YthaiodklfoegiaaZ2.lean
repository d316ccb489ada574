/- Of this session's texts, what the row uses: MPut, MClose, MConcat, MStand, PGx33, MSide, PGx3, PGx4, PGx5, PGx11, PGx12, VPure, MPol, OPolicy, PGx19, PGx20, PGx21, PGx22, PGx23. -/
import Derived.OneCell
import Derived.Test.YthaiodklfoegiaaZ1
import Derived.Deep.DeepAppendRoom
import Derived.Deep.MidRow
set_option linter.unusedSimpArgs false
set_option linter.unusedVariables false
set_option maxHeartbeats 8000000
set_option maxRecDepth 100000
/- reach.Close's put: the closure. -/
namespace Go.Proofs.Ythaiodklfoegiaa.MPut
open Go.RowKit YthaiodklfoegiaaW.PrintWords YthaiodklfoegiaaW.PrintLast YthaiodklfoegiaaW.PrintMore BMap BRow MLines Go.Maps
open PG
open Classical in
noncomputable def put1 (L : List ByteArray) (x : ByteArray) : List ByteArray := if x ∈ L then L else L ++ [x]
noncomputable def putAll (L xs : List ByteArray) : List ByteArray := xs.foldl put1 L
theorem putAll_snoc (L xs : List ByteArray) (x : ByteArray) : putAll L (xs ++ [x]) = put1 (putAll L xs) x := by simp [putAll]
theorem mem_put1 (L : List ByteArray) (x s : ByteArray) : s ∈ put1 L x ↔ s ∈ L ∨ s = x := by
 unfold put1
 split
 ·rename_i h; constructor
  ·exact .inl
  ·rintro (h' | rfl)
   ·exact h'
   ·exact h
 ·simp
theorem mem_putAll (L : List ByteArray) (s : ByteArray) : ∀ xs, s ∈ putAll L xs ↔ s ∈ L ∨ s ∈ xs := by
 intro xs
 induction xs generalizing L with
 | nil => simp [putAll]
 | cons x r ih =>
  have := ih (put1 L x)
  rw [show putAll L (x :: r) = putAll (put1 L x) r from rfl, this, mem_put1, List.mem_cons]
  constructor
  ·rintro ((h | h) | h)
   ·exact .inl h
   ·exact .inr (.inl h)
   ·exact .inr (.inr h)
  ·rintro (h | h | h)
   ·exact .inl (.inl h)
   ·exact .inl (.inr h)
   ·exact .inr h
theorem nodup_put1 {L : List ByteArray} (h : L.Nodup) (x : ByteArray) : (put1 L x).Nodup := by
 unfold put1
 split
 ·exact h
 ·rename_i hx
  rw [List.nodup_append]
  refine ⟨h, by simp, fun a ha b hb e => ?_⟩
  simp at hb
  exact hx (hb ▸ e ▸ ha)
theorem nodup_putAll : ∀ (xs : List ByteArray) {L : List ByteArray}, L.Nodup → (putAll L xs).Nodup
 | [], _, h => h
 | x :: r, _, h => nodup_putAll r (nodup_put1 h x)
theorem put1_prefix (L : List ByteArray) (x : ByteArray) : ∃ M, put1 L x = L ++ M := by
 unfold put1
 split
 ·exact ⟨[], by simp⟩
 ·exact ⟨[x], rfl⟩
theorem putAll_prefix : ∀ (xs L : List ByteArray), ∃ M, putAll L xs = L ++ M
 | [], L => ⟨[], by simp [putAll]⟩
 | x :: r, L => by
  obtain ⟨M, hM⟩ := put1_prefix L x
  obtain ⟨M', hM'⟩ := putAll_prefix r (put1 L x)
  exact ⟨M ++ M', by show putAll (put1 L x) r = _; rw [hM', hM, List.append_assoc]⟩
theorem nodup_le : ∀ (l U : List ByteArray), l.Nodup → (∀ s ∈ l, s ∈ U) → l.length ≤ U.length
 | [], _, _, _ => Nat.zero_le _
 | x :: r, U, h, hs => by
  have hx : x ∈ U := hs x (by simp)
  obtain ⟨A, B, rfl⟩ := List.append_of_mem hx
  have h1 := (List.nodup_cons.1 h)
  have := nodup_le r (A ++ B) h1.2 (fun s hsr => by
   have := hs s (by simp [hsr])
   simp only [List.mem_append, List.mem_cons] at this ⊢
   rcases this with h2 | rfl | h2
   ·exact .inl h2
   ·exact absurd hsr h1.1
   ·exact .inr h2)
  simp at this ⊢
  omega
abbrev unitV : Unit → Value := fun _ => .agg #[]
structure Seen (w wr : World) (bs bm bl : Nat) (f : ByteArray → Option Unit) (n : Nat) (v : Value) (L : List ByteArray) : Prop where
 svar : wr.heap[bs]? = some (.cells #[.map (some bm)] 93 (0, 0))
 map : MapF Value.string unitV okS wr bm f n
 lvar : wr.heap[bl]? = some (.cells #[v] 22 (0, 0))
 row : Kd.R Kd.string 9 wr w.heap.size (fun k => k ≠ bs ∧ k ≠ bm ∧ k ≠ bl) v L
 has : ∀ s, (f s).isSome = true ↔ s ∈ L
 gs : w.heap.size ≤ bs
 gm : w.heap.size ≤ bm
 gl : w.heap.size ≤ bl
 sm : bs ≠ bm
 sl : bs ≠ bl
 ml : bm ≠ bl
 below : Below w.heap.size w wr
theorem Seen.move {w wr w1 : World} {bs bm bl : Nat} {f : ByteArray → Option Unit} {n : Nat} {v : Value} {L : List ByteArray} (h : Seen w wr bs bm bl f n v L) (hb : Below wr.heap.size wr w1) : Seen w w1 bs bm bl f n v L :=
 { h with svar := (hb.block _ (Array.getElem?_eq_some_iff.1 h.svar).1).trans h.svar, map := h.map.below hb, lvar := (hb.block _ (Array.getElem?_eq_some_iff.1 h.lvar).1).trans h.lvar, row := Kd.R_below h.row hb, below := below_then h.below h.below.size hb }
theorem z121 (w : World) : (zeroValue 121).run Try.prog w = .ok (.agg #[]) w := by kernel_rfl
theorem frozen_of_row {w : World} {g : Nat} {cs : Array Value} {t : TypeId} (h : w.heap[g]? = some (.cells cs t (0, 0))) (i : Nat) : w.frozen? ⟨g, i, none⟩ = false := by simp [World.frozen?, h]
theorem seen_put {w W w4 w8 : World} {bs bm bl : Nat} {f : ByteArray → Option Unit} {n n' : Nat} {v v8 : Value} {L : List ByteArray} {x : ByteArray} (h : Seen w W bs bm bl f n v L) (hM : MapF Value.string unitV okS w4 bm (upd f x ()) n')
  (hs : w4.heap[bs]? = some (.cells #[.map (some bm)] 93 (0, 0))) (hl : w8.heap[bl]? = some (.cells #[v] 22 (0, 0))) (hR : Kd.R Kd.string 9 w8 w.heap.size (fun k => k ≠ bs ∧ k ≠ bm ∧ k ≠ bl) v8 (L ++ [x])) (hB : Below w.heap.size w w8) (hg : w4.grownBy w8 v.ownBlock)
  (hR4 : Kd.R Kd.string 9 w4 w.heap.size (fun k => k ≠ bs ∧ k ≠ bm ∧ k ≠ bl) v L) : Seen w (w8.setCell ⟨bl, 0, none⟩ v8) bs bm bl (upd f x ()) n' v8 (L ++ [x]) where
 svar := by
  have : w8.heap[bs]? = some (.cells #[.map (some bm)] 93 (0, 0)) := (hg.block _ (Array.getElem?_eq_some_iff.1 hs).1 (fun e => (hR4.1 _ e.symm).1 rfl)).trans hs
  exact (Below.heap_setCell _ _ _ _ h.sl).trans this
 map := (hM.grown hg (fun e => (hR4.1 _ e.symm).2.1 rfl)).setCell (fun e => h.ml e.symm) _
 lvar := one_setCell hl
 row := Kd.R_far hR (fun k hk => hk.2.2) _
 has := fun s => by
  by_cases e : s = x
  ·subst e; simp [upd_same]
  ·rw [upd_other _ _ e, List.mem_append, List.mem_singleton, h.has s]
   simp [e]
 gs := h.gs
 gm := h.gm
 gl := h.gl
 sm := h.sm
 sl := h.sl
 ml := h.ml
 below := hB.setCell h.gl _
theorem put_calls (A : Option Addr) (c : Nat) (xs : List ByteArray) (w w0 : World) (bs bm bl : Nat) (f : ByteArray → Option Unit) (n : Nat) (v : Value) (L U : List ByteArray) (hS : Seen w w0 bs bm bl f n v L)
  (hC : ∀ wr, Below w.heap.size w wr → Kd.C Kd.string wr A xs.length xs) (hok : ∀ s ∈ xs, okS s) (hL : L.Nodup) (hU : ∀ s, s ∈ L ∨ s ∈ xs → s ∈ U) (hlim : U.length ≤ 8796093022207) :
  Calls Try.prog 92 #[.slice A xs.length c, .pointer (some ⟨bs, 0, none⟩), .pointer (some ⟨bl, 0, none⟩)] w0 fun e w' => e = .returned (.tuple #[]) ∧ ∃ f' n' v', Seen w w' bs bm bl f' n' v' (putAll L xs) := by
 have hmax : xs.length ≤ 9223372036854775807 := (hC w0 hS.below).2.1
 have HS0 := jA hS
 have HC := jA hC
 have HOK := jA hok
 have HL := jA hL
 have HU := jA hU
 have HLIM := jA hlim
 clear hS hC hok hL hU hlim
 go_enter Try.func92, Try.ntmps92
 go_wp2
 go_loopw [10] (fun u wr => ∃ (k : Nat) (f : ByteArray → Option Unit) (n : Nat) (v : Value), k ≤ xs.length ∧ u = .int .i64 k ∧ Aside0 (Seen w wr bs bm bl f n v (putAll L (xs.take k)))) (fun u _ => xs.length - (intOf u).toNat)
 case atStart => exact ⟨0, _, _, _, Nat.zero_le _, rfl, HS0⟩
 case round =>
  obtain ⟨k, f, n, v, hk, rfl, HR⟩ := hrel
  by_cases hlt : k < xs.length
  ·obtain ⟨ad, e0, hx⟩ := Kd.at_string (HC.out _ HR.out.below) (k : Int) (by omega) (by omega)
   have hget : rdOf ByteArray.empty xs (k : Int) = xs[k] := by simp [rdOf, hlt]
   cases e0
   simp only [hget, Int.toNat_natCast] at hx
   have hq := HOK.out xs[k] (List.getElem_mem hlt)
   have hmem : xs[k] ∈ xs := List.getElem_mem hlt
   have htk : xs.take (k + 1) = xs.take k ++ [xs[k]] := List.take_succ_eq_append_getElem hlt
   obtain ⟨x, hxx⟩ : ∃ x, x = xs[k] := ⟨_, rfl⟩
   rw [← hxx] at hx hq hmem htk
   have HQ := jA hq
   have HMEM := jA hmem
   have HTK := jA htk
   clear hq hxx hget hmem htk
   have c0' : (k : Int) < xs.length := by omega
   have hsv : wr.cell? ⟨bs, 0, none⟩ = some (.map (some bm)) := by rw [cell_of_row _ _ _ _ _ _ HR.out.svar]; rfl
   have hlk := HR.out.map.lookup str_key Try.underlying93 (z121 wr) HQ.out true
   have hz := z121 wr
   have hu := Try.underlying121
   obtain ⟨L1, hL1⟩ : ∃ L1, L1 = putAll L (xs.take k) := ⟨_, rfl⟩
   rw [← hL1] at HR
   have hput : putAll L (xs.take (k + 1)) = put1 L1 x := by rw [HTK.out, putAll_snoc, ← hL1]
   have HPUT := jA hput
   have hlen : L1.length ≤ U.length := by
    subst hL1
    refine nodup_le _ _ (nodup_putAll _ HL.out) fun s hs => HU.out s ?_
    rcases (mem_putAll _ _ _).1 hs with h | h
    ·exact .inl h
    ·exact .inr (List.mem_of_mem_take h)
   have hlim : (L1.length + 1) * 16 ≤ 140737488355328 := by have := HLIM.out; omega
   have HLEN := jA hlim
   clear hput hL1 hlen hlim
   cases hfx : f x with
   | some u =>
    have hin : x ∈ L1 := (HR.out.has x).1 (by rw [hfx]; rfl)
    simp only [hfx, if_true, Option.map_some, Option.getD_some, Option.isSome_some] at hlk
    go_wp2
    go_roundw
    case rel => exact ⟨k + 1, f, n, v, by omega, by go_num, ⟨by rw [HPUT.out, put1, if_pos hin]; exact HR.out.move (below_alloc (Below.refl _ _) _)⟩⟩
    case measure => simp [intOf]; omega
   | none =>
    have hin : x ∉ L1 := fun h => by have := (HR.out.has x).2 h; rw [hfx] at this; cases this
    simp only [hfx, if_true, Option.map_none, Option.getD_none, Option.isSome_none] at hlk
    go_upto_region 5 with fail
    have HW := HR.out.move (below_alloc (Below.refl _ _) (.cells #[] 121))
    obtain ⟨W2, hW2⟩ : ∃ W2, W2 = wr.alloc (.cells #[] 121) := ⟨_, rfl⟩
    rw [← hW2] at HW ⊢
    clear hW2 hlk hz hu hsv HR
    have hsv : W2.cell? ⟨bs, 0, none⟩ = some (.map (some bm)) := by rw [cell_of_row _ _ _ _ _ _ HW.svar]; rfl
    obtain ⟨w4, hrun, hM4, hg4⟩ := HW.map.update str_key Try.underlying93 HQ.out ()
    have Zd : (Instr.mapUpdate 93 (.map (some bm)) (.string x) (.agg #[])).run Try.prog W2 = .ok () w4 := hrun
    have Za : w4.heap[bl]? = some (.cells #[v] 22 (0, 0)) := (hg4.block _ (Array.getElem?_eq_some_iff.1 HW.lvar).1 (fun e => HW.ml (Option.some.inj e).symm)).trans HW.lvar
    have hlv : w4.cell? ⟨bl, 0, none⟩ = some v := by rw [cell_of_row _ _ _ _ _ _ Za]; rfl
    have hR4 := Kd.R_grown HW.row hg4 (fun k hk e => hk.2.1 (Option.some.inj e))
    have hB4 := HW.below.grown hg4 HW.below.size (fun k hk => by cases hk; exact HW.gm)
    have Zb : w4.heap[bs]? = some (.cells #[.map (some bm)] 93 (0, 0)) := (hg4.block _ (Array.getElem?_eq_some_iff.1 HW.svar).1 (fun e => HW.sm (Option.some.inj e))).trans HW.svar
    have hfresh : ∀ k, w4.heap.size ≤ k → (k ≠ bs ∧ k ≠ bm ∧ k ≠ bl) := fun k hk => by
     have h1 := (Array.getElem?_eq_some_iff.1 Zb).1
     have h2 := (Array.getElem?_eq_some_iff.1 Za).1
     have h3 := hM4.lt
     omega
    have HR4 := jA hR4
    have HB4 := jA hB4
    have HF := jA hfresh
    have HM4 := jA hM4
    have HS4 := jA Zb
    have HL4 := jA Za
    have HW2 := jA HW
    clear hR4 hB4 hfresh hM4 Zb Za HW hrun
    go_wp2_with (first | ((with_reducible refine gate_builtin (b := .append) (xs := #[.tmp 25, .tmp 27]) rfl ?_); at_builtin; refine Kd.R_append Kd.string (w0 := w) w.heap.size rfl (.tmp 25) (.tmp 27) 22 9 (.string ⟨#[]⟩) 16 rfl Try.underlying22 info9 rfl (by decide) (by decide) v L1 x [.string x] (fun k => k ≠ bs ∧ k ≠ bm ∧ k ≠ bl) (fun _ => False) rfl rfl rfl (fun _ hk => hk.elim) HF.out HR4.out HB4.out HB4.out.size HLEN.out ?_; intro v8 w8 hR8 hB8 hg8 Zc; obtain ⟨A8, c8, rfl⟩ := Kd.R_slice hR8; have hl8 : w8.heap[bl]? = some (.cells #[v] 22 (0, 0)) := (hg8.block _ (Array.getElem?_eq_some_iff.1 HL4.out).1 (fun e => (HR4.out.1 _ e.symm).2.2 rfl)).trans HL4.out; have Ze : w8.cell? ⟨bl, 0, none⟩ = some v := (cell_of_row _ _ _ _ _ _ hl8).trans rfl; have Zf : w8.frozen? ⟨bl, 0, none⟩ = false := frozen_of_row hl8 0; have HR8 := jA hR8; have HB8 := jA hB8; have HG8 := jA hg8; have HL8 := jA hl8; clear hR8 hB8 hg8 Zc hl8))
    go_roundw
    case rel =>
     have hn := seen_put HW2.out HM4.out HS4.out HL8.out HR8.out HB8.out HG8.out HR4.out
     have e : putAll L (xs.take (k + 1)) = L1 ++ [x] := by rw [HPUT.out, put1, if_neg hin]
     rw [List.length_append, List.length_singleton, ← e] at hn
     exact ⟨k + 1, _, _, _, by omega, by go_num, ⟨hn⟩⟩
    case measure => simp [intOf]; omega
  ·have hkk : k = xs.length := by omega
   subst hkk
   have hfin := HR.out
   rw [List.take_length] at hfin
   go_wp2
   go_end0
   exact ⟨rfl, _, _, _, hfin⟩
end Go.Proofs.Ythaiodklfoegiaa.MPut
/- reach.Close over lines, reach.Up. -/
namespace Go.Proofs.Ythaiodklfoegiaa.MClose
open Go.RowKit YthaiodklfoegiaaW.PrintWords YthaiodklfoegiaaW.PrintLast YthaiodklfoegiaaW.PrintMore BMap BRow MLines MPut Go.Maps
open PG
inductive Reach (ps : List S108) (x : ByteArray) : ByteArray → Prop where
 | here : Reach ps x x
 | step {s : ByteArray} {q : S108} : Reach ps x s → q ∈ ps → q.f0 = s → Reach ps x q.f1
theorem mem_targets (ps : List S108) (s t : ByteArray) : t ∈ targets ps s ↔ ∃ q ∈ ps, q.f0 = s ∧ q.f1 = t := by
 unfold targets
 rw [List.mem_map]
 constructor
 ·rintro ⟨q, hq, rfl⟩
  have := List.mem_filter.1 hq
  exact ⟨q, this.1, of_decide_eq_true this.2, rfl⟩
 ·rintro ⟨q, hq, h1, rfl⟩
  exact ⟨q, List.mem_filter.2 ⟨hq, decide_eq_true h1⟩, rfl⟩
structure Turn (ps : List S108) (x : ByteArray) (L : List ByteArray) (i : Nat) : Prop where
 nodup : L.Nodup
 le : i ≤ L.length
 has : x ∈ L
 reach : ∀ s ∈ L, Reach ps x s
 done : ∀ (j : Nat) (h : j < L.length), j < i → ∀ t ∈ targets ps L[j], t ∈ L
theorem Turn.start (ps : List S108) (x : ByteArray) : Turn ps x (MPut.putAll [] [x]) 0 := by
 have e : MPut.putAll [] [x] = [x] := by simp [MPut.putAll, put1]
 rw [e]
 exact ⟨by simp, by simp, by simp, fun s hs => by rw [List.mem_singleton.1 hs]; exact .here, fun j _ h => by omega⟩
theorem Turn.next {ps : List S108} {x : ByteArray} {L : List ByteArray} {i : Nat} (h : Turn ps x L i) (hi : i < L.length) : Turn ps x (MPut.putAll L (targets ps L[i])) (i + 1) := by
 obtain ⟨M, hM⟩ := putAll_prefix (targets ps L[i]) L
 refine ⟨nodup_putAll _ h.nodup, by rw [hM, List.length_append]; omega, (mem_putAll _ _ _).2 (.inl h.has), fun s hs => ?_, fun j hj hji t ht => ?_⟩
 ·rcases (mem_putAll _ _ _).1 hs with hs | hs
  ·exact h.reach s hs
  ·obtain ⟨q, hq, h1, rfl⟩ := (mem_targets _ _ _).1 hs
   exact .step (h.reach _ (List.getElem_mem hi)) hq h1
 ·have hjL : j < L.length := by omega
  have e : (MPut.putAll L (targets ps L[i]))[j] = L[j] := by
   have h2 : (MPut.putAll L (targets ps L[i]))[j]? = (L ++ M)[j]? := by rw [hM]
   rw [List.getElem?_eq_getElem hj, List.getElem?_append_left hjL, List.getElem?_eq_getElem hjL] at h2
   exact Option.some.inj h2
  rw [e] at ht
  refine (mem_putAll _ _ _).2 ?_
  by_cases Za : j = i
  ·subst Za; exact .inr ht
  ·exact .inl (h.done j hjL (by omega) t ht)
theorem Turn.all {ps : List S108} {x : ByteArray} {L : List ByteArray} (h : Turn ps x L L.length) (s : ByteArray) : s ∈ L ↔ Reach ps x s := by
 constructor
 ·exact h.reach s
 ·intro hr
  induction hr with
  | here => exact h.has
  | step _ hq e ih =>
   obtain ⟨j, hj, rfl⟩ := List.getElem_of_mem ih
   exact h.done j hj hj _ ((mem_targets _ _ _).2 ⟨_, hq, e, rfl⟩)
theorem reach_in {ps : List S108} {x s : ByteArray} (h : Reach ps x s) : s = x ∨ s ∈ ps.map (·.f1) := by
 cases h with
 | here => exact .inl rfl
 | step _ hq _ => exact .inr (List.mem_map_of_mem hq)
theorem Turn.short {ps : List S108} {x : ByteArray} {L : List ByteArray} {i : Nat} (h : Turn ps x L i) : L.length ≤ ps.length + 1 := by
 have := nodup_le L (x :: ps.map (·.f1)) h.nodup (fun s hs => by
  rcases reach_in (h.reach s hs) with rfl | h'
  ·simp
  ·exact List.mem_cons_of_mem _ h')
 simpa using this
theorem next_calls (x : ByteArray) (bv b : Nat) (w wr : World) (f : ByteArray → Option Value) (n : Nat) (ps : List S108) (hL : Lines w wr b f n ps) (hv : wr.cell? ⟨bv, 0, none⟩ = some (.map (some b))) (hx : okS x) :
  Calls Try.prog 90 #[.string x, .pointer (some ⟨bv, 0, none⟩)] wr fun e w' => e = .returned ((f x).getD (.slice none 0 0)) ∧ w' = wr := by
 have hlk := hL.map.lookup str_key Try.underlying125 (z22 wr) hx false
 simp only [Bool.false_eq_true, if_false, Option.map_id_fun, id] at hlk
 clear hL
 go_enter Try.func90, Try.ntmps90
 go_wp2
 go_ret
 exact ⟨rfl, rfl⟩
theorem Lines.read {w wr w1 : World} {b : Nat} {f : ByteArray → Option Value} {n : Nat} {ps : List S108} (h : Lines w wr b f n ps) (hb : Below wr.heap.size wr w1) (s : ByteArray) :
  ∃ A c, (f s).getD (.slice none 0 0) = .slice A (targets ps s).length c ∧ Kd.C Kd.string w1 A (targets ps s).length (targets ps s) := by
 cases hf : f s with
 | none =>
  rw [h.no s hf]
  exact ⟨none, 0, rfl, rfl, by simp, fun h => absurd h (by simp)⟩
 | some v =>
  obtain ⟨A, c, rfl, _, hr⟩ := Kd.R_reads (Kd.R_below (h.vals s v hf) hb)
  exact ⟨A, c, rfl, hr⟩
theorem func_not_nil (v : Value) (w : World) : (binOp .neq 128 (.func (.func 90) #[] #[v]) .nilFunc).run Try.prog w = .ok (.bool true) w := by kernel_rfl
theorem close_calls (A : Option Addr) (c : Nat) (x : ByteArray) (bv b : Nat) (w0 w : World) (f : ByteArray → Option Value) (n : Nat) (ps : List S108) (hL : Lines w0 w b f n ps) (hv : w.cell? ⟨bv, 0, none⟩ = some (.map (some b)))
  (hC : Kd.C Kd.string w A 1 [x]) (hx : okS x) (hok : ∀ q ∈ ps, okS q.f0 ∧ okS q.f1) (hb : ps.length ≤ 8796093021952) :
  Calls Try.prog 89 #[.slice A 1 c, .func (.func 90) #[] #[.pointer (some ⟨bv, 0, none⟩)]] w fun e w' => ∃ v, e = .returned v ∧ ∃ L, Kd.R Kd.string 9 w' w.heap.size (fun _ => True) v L ∧ L.Nodup ∧ (∀ s, s ∈ L ↔ Reach ps x s) ∧ Below w.heap.size w w' := by
 have HL := jA hL
 have HV := jA hv
 have HC := jA hC
 have HX := jA hx
 have HOK := jA hok
 have HB := jA hb
 clear hL hv hC hx hok
 have hmm := @run_makeMap Try.prog
 go_enter Try.func89, Try.ntmps89
 go_upto_region 4 with fail
 obtain ⟨W, hW⟩ : ∃ W, W = (((w.alloc (.map #[] 0)).alloc (.cells #[.map (some w.heap.size)] 93)).alloc (.cells #[.slice none 0 0] 22)) := ⟨_, rfl⟩
 have hS : Seen w W (w.heap.size + 1) w.heap.size (w.heap.size + 1 + 1) (fun _ => none) 0 (.slice none 0 0) [] := by
  subst hW
  refine ⟨?_, ?_, ?_, Kd.R_nil _ _ _ _ _, fun s => by simp, by omega, by omega, by omega, by omega, by omega, by omega, ?_⟩
  ·have h1 := heap_alloc_new (w.alloc (.map #[] 0)) (.cells #[.map (some w.heap.size)] 93)
   rw [World.size_alloc] at h1
   exact (Below.heap_alloc _ _ _ (by simp)).trans h1
  ·exact ((MapF.made w).alloc _).alloc _
  ·have h1 := heap_alloc_new ((w.alloc (.map #[] 0)).alloc (.cells #[.map (some w.heap.size)] 93)) (.cells #[.slice none 0 0] 22)
   rw [World.size_alloc, World.size_alloc] at h1
   exact h1
  ·exact below_alloc (below_alloc (below_alloc (Below.refl _ _) _) _) _
 rw [← hW]
 have HS := jA hS
 clear hmm hW hS
 go_upto_region 6 with (first | (go_at_call 92; (refine (put_calls A c [x] w W (w.heap.size + 1) w.heap.size (w.heap.size + 1 + 1) (fun _ => none) 0 (.slice none 0 0) [] [x] HS.out (fun wr hb => Kd.C_below HC.out hb) (fun s hs => by rw [List.mem_singleton.1 hs]; exact HX.out) (by simp) (fun s hs => by simpa using hs) (by simp)).mono ?_); rintro e w2 ⟨rfl, f2, n2, v2, hS2⟩; have HS2 := jA hS2; clear hS2))
 go_loopw [8] (fun u wr => ∃ (i : Nat) (f' : ByteArray → Option Unit) (n' : Nat) (v : Value) (L : List ByteArray), u = .int .i64 i ∧ Aside0 (Turn ps x L i) ∧ Aside0 (Seen w wr (w.heap.size + 1) w.heap.size (w.heap.size + 1 + 1) f' n' v L)) (fun u _ => ps.length + 1 - (intOf u).toNat)
 case atStart => exact ⟨0, f2, n2, v2, _, rfl, ⟨Turn.start ps x⟩, HS2⟩
 case round =>
  obtain ⟨i, f', n', v, L, rfl, HT, HR⟩ := hrel
  obtain ⟨Al, cl, rfl, hcl, hrl⟩ := Kd.R_reads HR.out.row
  have hlv : wr.cell? ⟨w.heap.size + 1 + 1, 0, none⟩ = some (.slice Al L.length cl) := by rw [cell_of_row _ _ _ _ _ _ HR.out.lvar]; rfl
  by_cases hlt : i < L.length
  ·have hiI : (i : Int) < L.length := by omega
   obtain ⟨ad, e0, hx⟩ := Kd.at_string hrl (i : Int) (by omega) (by omega)
   have hget : rdOf ByteArray.empty L (i : Int) = L[i] := by simp [rdOf, hlt]
   simp only [hget, Int.toNat_natCast] at hx
   subst e0
   have hnn := func_not_nil (.pointer (some ⟨bv, 0, none⟩)) wr
   obtain ⟨y, hy⟩ : ∃ y, y = L[i] := ⟨_, rfl⟩
   rw [← hy] at hx
   have hyx : Reach ps x y := by rw [hy]; exact HT.out.reach _ (List.getElem_mem hlt)
   have hyok : okS y := by
    rcases reach_in hyx with e | h
    ·rw [e]; exact HX.out
    ·obtain ⟨q, hq, e⟩ := List.mem_map.1 h
     rw [← e]; exact (HOK.out q hq).2
   have HY := jA hyok
   have HYL := jA hy
   clear hyx hyok hy
   obtain ⟨At, ct, hft, hCt⟩ := Lines.read HL.out (Below.refl _ w) y
   have HCT := jA hCt
   have hlen := HT.out.short
   have HN := jA (HT.out.next hlt)
   rw [← HYL.out] at HN
   clear hCt
   go_wp2_with (first | (go_at_call 90; (refine (next_calls y bv b w0 wr f n ps (HL.out.move HR.out.below) ((pw_cell_below HR.out.below HV.out)) HY.out).mono ?_); rintro e w5 ⟨rfl, rfl⟩; rw [hft]) | (go_at_call 92; (refine (put_calls At ct (targets ps y) w _ (w.heap.size + 1) w.heap.size (w.heap.size + 1 + 1) f' n' _ L (x :: ps.map (·.f1)) HR.out (fun wr hb => Kd.C_below HCT.out hb) (fun s hs => by obtain ⟨q, hq, _, rfl⟩ := (mem_targets _ _ _).1 hs; exact (HOK.out q hq).2) HT.out.nodup (fun s hs => by rcases hs with hs | hs; (rcases reach_in (HT.out.reach s hs) with rfl | h; (simp); (exact List.mem_cons_of_mem _ h)); (obtain ⟨q, hq, _, rfl⟩ := (mem_targets _ _ _).1 hs; exact List.mem_cons_of_mem _ (List.mem_map_of_mem hq))) (by have := HB.out; simp; omega)).mono ?_); rintro e w6 ⟨rfl, f6, n6, v6, hS6⟩; have HS6 := jA hS6; clear hS6))
   go_roundw
   case rel => exact ⟨i + 1, f6, n6, v6, _, by go_num, HN, HS6⟩
   case measure => simp [intOf]; omega
  ·have hiI : ¬ (i : Int) < L.length := by omega
   have hnn := func_not_nil (.pointer (some ⟨bv, 0, none⟩)) wr
   have hii : i = L.length := by have := HT.out.le; omega
   subst hii
   go_wp2
   go_ret
   exact ⟨_, rfl, L, Kd.R_mono HR.out.row (fun _ _ => trivial), HT.out.nodup, HT.out.all, HR.out.below⟩
theorem C_one {α : Type} {enc : α → Value} {h1 : ∀ x, (enc x).oneCell' = true} {w : World} {b : Nat} {x : α} (h : w.cell? ⟨b, 0, none⟩ = some (enc x)) : Kd.C (Kd.scalar enc h1) w (some ⟨b, 0, none⟩) 1 [x] := by
 refine ⟨rfl, by decide, fun _ => ⟨_, rfl, fun j p hp => ?_⟩⟩
 have hj : j = 0 := by have := (List.getElem?_eq_some_iff.1 hp).1; simpa using this
 subst hj
 have hp : x = p := by simpa using hp
 subst hp
 refine ⟨[enc x], rfl, rfl, fun i u hu => ?_⟩
 have hi : i = 0 := by have := (List.getElem?_eq_some_iff.1 hu).1; simpa using this
 subst hi
 have hu : enc x = u := by simpa using hu
 subst hu
 simpa [Addr.add] using h
theorem up_calls (A : Option Addr) (c : Nat) (x : ByteArray) (w : World) (ps : List S108) (hC : Kd.C k108 w A ps.length ps) (hc : ps.length ≤ c) (hx : okS x) (hok : ∀ q ∈ ps, okS q.f0 ∧ okS q.f1) (hb : ps.length ≤ 8796093021952) :
  Calls Try.prog 82 #[.slice A ps.length c, .string x] w fun e w' => ∃ v, e = .returned v ∧ ∃ L, Kd.R Kd.string 9 w' w.heap.size (fun _ => True) v L ∧ L.Nodup ∧ (∀ s, s ∈ L ↔ Reach ps x s) ∧ Below w.heap.size w w' := by
 have HC := jA hC
 have HX := jA hx
 have HOK := jA hok
 have HB := jA hb
 have HCC := jA hc
 clear hC hx hok hb hc
 go_enter Try.func82, Try.ntmps82
 go_upto_region 2 with (first | (go_at_call 88; (with_reducible refine (lines_calls A c ps w HC.out HCC.out HB.out (fun q hq => (HOK.out q hq).1)).mono ?_); rintro e w2 ⟨b, f, n, rfl, hL⟩; have HL := jA hL; clear hL))
 have HL2 := HL.out.move (below_alloc (Below.refl _ w2) (.cells #[.map (some b)] 125))
 have HL3 := HL2.move (below_alloc (Below.refl _ _) (.cells #[.string x] 9))
 have hv : ((w2.alloc (.cells #[.map (some b)] 125)).alloc (.cells #[.string x] 9)).cell? ⟨w2.heap.size, 0, none⟩ = some (.map (some b)) := by go_simp
 have hc1 : ((w2.alloc (.cells #[.map (some b)] 125)).alloc (.cells #[.string x] 9)).cell? ⟨w2.heap.size + 1, 0, none⟩ = some (.string x) := by go_simp
 have HV := jA hv
 have HC1 := jA (C_one (enc := Value.string) (h1 := fun _ => rfl) hc1)
 have HL3 := jA HL3
 clear hv hc1 HL2
 go_wp2_with (first | (go_at_call 89; (refine (close_calls (some ⟨w2.heap.size + 1, 0, none⟩) 1 x w2.heap.size b w _ f n ps HL3.out HV.out HC1.out HX.out HOK.out HB.out).mono ?_); rintro e w5 ⟨v, rfl, L, hR, hN, hS, hB5⟩; have HR5 := jA hR; have HN5 := jA hN; have HS5 := jA hS; have HB5 := jA hB5; clear hR hN hS hB5))
 go_ret
 exact ⟨_, rfl, L, Kd.R_lower HR5.out HL3.out.below.size, HN5.out, HS5.out, below_then HL3.out.below HL3.out.below.size HB5.out⟩
end Go.Proofs.Ythaiodklfoegiaa.MClose
/- slices.Grow of nothing, slices.Concat of two lists of pairs: up to what two lists of the greatest size take together. -/
namespace Go.Proofs.Ythaiodklfoegiaa.MConcat
open Go.RowKit YthaiodklfoegiaaW.PrintWords YthaiodklfoegiaaW.PrintLast YthaiodklfoegiaaW.PrintMore BMap BRow MLines MClose Go.Maps
open PG
section
variable {P : Program}
theorem run_zeros_nil (w : World) (t ti ty e : TypeId) (i : TypeInfo) (z : Value) (size bytes : Nat) (ht : P.underlying t = some (.slice e)) {k : IntKind} (hti : P.underlying ti = some (.int k)) (hi : P.info? e = some i) (hz : i.zero = some z)
  (hsize : i.size = size) (hby : i.bytes = bytes) (hzs : z.cells.size = size) (hsz : 0 < size) (hb0 : 0 < bytes) (base : Nat) (kx : IntKind) (m : Nat) (hm : 0 < m) (hbytes : m * bytes ≤ 281474976710656) (hbase : base ≤ w.heap.size) :
  ∃ w' cap, (Builtin.append_ #[t, ti] ty #[.slice none 0 0, .int kx m]).run P w = .ok (.slice (some ⟨w.heap.size, 0, none⟩) m cap) w' ∧ w'.ownsRow base e size (.slice (some ⟨w.heap.size, 0, none⟩) m cap) m (Builtin.zeroCells z.cells m).toList ∧ w.grownBy w' none := by
 subst hsize
 subst hby
 have hle : m ≤ 281474976710656 := Nat.le_trans (Nat.le_mul_of_pos_right _ hb0) hbytes
 have h63 : m ≤ maxLen := by simp only [maxLen]; omega
 have hw : IntKind.i64.wrap (m : Int) = m := by rw [IntKind.wrap_i64]; omega
 have hneg : ¬ ((m : Int) < 0) := by omega
 have hbig : ¬ (281474976710656 < (m : Int) * (i.bytes : Int)) := by
  rw [← Int.natCast_mul]
  omega
 have hsn : i.size ≠ 0 := by omega
 have hmz : ¬ (m * i.size = 0) := Nat.mul_ne_zero (by omega) hsn
 have hm0 : m ≠ 0 := by omega
 have h63' : ¬ (9223372036854775807 < (m : Int)) := by omega
 have hcap : Builtin.nextslicecap m 0 = m := by unfold Builtin.nextslicecap; rw [if_pos (by omega)]
 have h48' : ¬ (281474976710656 < Builtin.nextslicecap m 0 * i.bytes) := by rw [hcap]; omega
 have hfo : (Builtin.firstCells i.size 0 (.slice none 0 0)).run P w.drew = .ok #[] w.drew := by simp [Builtin.firstCells]
 have hge := grownCap_ge w m 0 e
 have hcm : grownCap w m 0 e ≤ maxLen := grownCap_le_maxLen w m 0 e (by omega)
 have hl : (Builtin.zeroCells z.cells m).toList.length = m * i.size := by rw [Array.length_toList, size_zeroCells, hzs]
 refine ⟨w.drew.alloc (.cells (#[] ++ Builtin.zeroCells z.cells m ++ Builtin.zeroCells z.cells (grownCap w m 0 e - m)) e), grownCap w m 0 e, ?_, ⟨hl, .inr ⟨w.heap.size, _, _, rfl, hbase, heap_alloc_new w.drew _, by omega, hcm, ?_, ?_⟩⟩, ⟨rfl, rfl, rfl, by simp, fun k hk _ => heap_alloc_old w.drew _ hk⟩⟩
 ·simp [Builtin.append_, run_underlying ht, run_underlying hti, sizeOf, typeInfo, zeroValue, hi, hz, asInt, asIntOf, hw, hneg, hbig, h63', h48', hm0, Question.forced, hfo, newRow, grownCap, hmz]
 ·simp only [Array.size_append, size_zeroCells, hzs, ← Nat.add_mul, List.size_toArray, List.length_nil, Nat.zero_add]
  congr 1
  omega
 ·simp only [Array.toList_append, List.nil_append]
  rw [← hl]
  exact List.take_left
theorem wpList_zeros_nil {ops : Array Oper} {rest : List Oper} {o : Oper} {a : Act} {Q : Exit → Act → World → Prop} (w : World) (hgd : o.guard = none) (s x : Operand) (t ti e : TypeId) (ho : o.op = .call { callee := .builtin .append, args := #[s, x], argTypes := #[t, ti] })
  (ht : P.underlying t = some (.slice e)) {k : IntKind} (hti : P.underlying ti = some (.int k)) (z : Value) (size bytes : Nat) (hinfo : (P.info? e).map (fun i => (i.zero, i.size, i.bytes)) = some (some z, size, bytes)) (hzs : z.cells.size = size) (hsz : 0 < size) (hb0 : 0 < bytes)
  (base : Nat) (kx : IntKind) (m : Nat) (hs : a.eval s = .slice none 0 0) (hx : a.eval x = .int kx m) (hm : 0 < m) (hbytes : m * bytes ≤ 281474976710656) (hbase : base ≤ w.heap.size)
  (h : ∀ w' g cap, w'.ownsRow base e size (.slice (some ⟨g, 0, none⟩) m cap) m (Builtin.zeroCells z.cells m).toList → w.grownBy w' none → m ≤ cap → wpList P ops Q rest (a.put o.dst (.slice (some ⟨g, 0, none⟩) m cap)) w') : wpList P ops Q (o :: rest) a w := by
 obtain ⟨i, hi, hzz⟩ := Option.map_eq_some_iff.1 hinfo
 simp only [Prod.mk.injEq] at hzz
 obtain ⟨hz0, hz1, hz2⟩ := hzz
 obtain ⟨w', cap, hr, hown, hg⟩ := run_zeros_nil (P := P) w t ti o.type e i z size bytes ht hti hi hz0 hz1 hz2 hzs hsz hb0 base kx m hm hbytes hbase
 have hcap : m ≤ cap := own_cap hown
 refine wpList_plain hgd fun K hK => ?_
 unfold Oper.wp execOp
 simp only [ho, resolve, invoke, builtin, Sem.run_bind, Sem.run_pure, Result.andThen_ok, List.map_toArray, List.map_cons, List.map_nil, hs, hx, hr]
 exact hK _ _ (h w' w.heap.size cap hown hg hcap)
end
def cs108 (xs : List S108) : List Value := xs.flatMap fun q => [.string q.f0, .string q.f1]
theorem cs108_length (xs : List S108) : (cs108 xs).length = xs.length * 2 := by
 induction xs with
 | nil => rfl
 | cons q r ih => simp [cs108] at ih ⊢; omega
theorem cs108_append (xs ys : List S108) : cs108 (xs ++ ys) = cs108 xs ++ cs108 ys := by simp [cs108]
theorem cs108_one (xs : List S108) : ∀ u ∈ cs108 xs, u.oneCell' = true := by
 intro u hu
 obtain ⟨q, _, h⟩ := List.mem_flatMap.1 hu
 simp only [List.mem_cons, List.not_mem_nil, or_false] at h
 rcases h with rfl | rfl <;> rfl
theorem cs108_get : ∀ (xs : List S108) (j : Nat) (h : j < xs.length), (cs108 xs)[j * 2]? = some (.string xs[j].f0) ∧ (cs108 xs)[j * 2 + 1]? = some (.string xs[j].f1)
 | q :: r, 0, _ => ⟨rfl, rfl⟩
 | q :: r, j + 1, h => by
  have := cs108_get r j (by simpa using h)
  have e1 : (j + 1) * 2 = j * 2 + 1 + 1 := by omega
  rw [e1]
  exact this
theorem C_cells {w : World} {A : Option Addr} {n : Nat} {xs : List S108} (h : Kd.C k108 w A n xs) (hn : 0 < n) : ∃ ad, A = some ad ∧ ∀ j u, (cs108 xs)[j]? = some u → w.cell? (ad.add j) = some u := by
 obtain ⟨ad, e, hc⟩ := h.2.2 hn
 refine ⟨ad, e, fun j u hu => ?_⟩
 have hj : j < xs.length * 2 := by have := (List.getElem?_eq_some_iff.1 hu).1; rwa [cs108_length] at this
 obtain ⟨k, hk⟩ : ∃ k, j = k * 2 ∨ j = k * 2 + 1 := ⟨j / 2, by omega⟩
 have hq : k < xs.length := by omega
 obtain ⟨c, _, hK, hcell⟩ := hc k xs[k] (List.getElem?_eq_getElem hq)
 have hK := k108_open hK
 subst hK
 obtain ⟨g0, g1⟩ := cs108_get xs k hq
 rcases hk with rfl | rfl
 ·rw [g0] at hu
  rw [← Option.some.inj hu]
  exact hcell 0 _ rfl
 ·rw [g1] at hu
  rw [← Option.some.inj hu]
  exact hcell 1 _ rfl
theorem C_of_cells {w : World} {ad : Addr} {xs : List S108} (hm : xs.length ≤ 9223372036854775807) (h : ∀ j u, (cs108 xs)[j]? = some u → w.cell? (ad.add j) = some u) : Kd.C k108 w (some ad) xs.length xs := by
 refine ⟨rfl, hm, fun _ => ⟨ad, rfl, fun j p hp => ?_⟩⟩
 obtain ⟨hj, rfl⟩ := List.getElem?_eq_some_iff.1 hp
 obtain ⟨g0, g1⟩ := cs108_get xs j hj
 refine ⟨[.string xs[j].f0, .string xs[j].f1], rfl, ⟨[.string xs[j].f0], [.string xs[j].f1], rfl, rfl, rfl⟩, fun i u hu => ?_⟩
 have hi : i < 2 := (List.getElem?_eq_some_iff.1 hu).1
 have : i = 0 ∨ i = 1 := by omega
 rcases this with rfl | rfl
 ·obtain rfl : Value.string xs[j].f0 = u := by simpa using hu
  exact h (j * 2) _ g0
 ·obtain rfl : Value.string xs[j].f1 = u := by simpa using hu
  exact h (j * 2 + 1) _ g1
def Roomy (n N : Nat) (v : Value) : Prop := (N = 0 ∧ v = .slice none 0 0) ∨ ∃ g cap, v = .slice (some ⟨g, 0, none⟩) n cap ∧ N ≤ cap
structure Held (w0 w : World) (v : Value) (xs : List S108) (N : Nat) : Prop where
 own : w.ownsRow w0.heap.size 108 2 v xs.length (cs108 xs)
 room : Roomy xs.length N v
 below : Below w0.heap.size w0 w
theorem Held.read {w0 w : World} {v : Value} {xs : List S108} {N : Nat} (h : Held w0 w v xs N) (hm : xs.length ≤ N) (h63 : N ≤ 9223372036854775807) : ∃ A c, v = .slice A xs.length c ∧ xs.length ≤ c ∧ Kd.C k108 w A xs.length xs := by
 rcases h.room with ⟨rfl, rfl⟩ | ⟨g, cap, rfl, hc⟩
 ·obtain rfl : xs = [] := List.eq_nil_of_length_eq_zero (by omega)
  exact ⟨none, 0, rfl, Nat.le_refl _, rfl, by simp, fun h => absurd h (by simp)⟩
 ·exact ⟨_, _, rfl, by omega, C_of_cells (by omega) (h.own.cells (g := g) rfl)⟩
theorem firstCells0 (size : Nat) (A : Option Addr) (c : Nat) (w : World) : (Builtin.firstCells size 0 (.slice A 0 c)).run Try.prog w = .ok #[] w := by
 cases A <;> simp [Builtin.firstCells, loadCells, loadCellsFrom]
theorem wpList_app108 {ops : Array Oper} {rest : List Oper} {o : Oper} {a : Act} {Q : Exit → Act → World → Prop} {w0 w : World} (hgd : o.guard = none) (s x : Operand) (ho : o.op = .call { callee := .builtin .append, args := #[s, x], argTypes := #[35, 35] })
  (v : Value) (xs ys : List S108) (N : Nat) {A : Option Addr} {c : Nat} (hs : a.eval s = v) (hx : a.eval x = .slice A ys.length c) (H : Held w0 w v xs N) (hC : Kd.C k108 w A ys.length ys) (hroom : xs.length + ys.length ≤ N)
  (h : ∀ v' w', Held w0 w' v' (xs ++ ys) N → wpList Try.prog ops Q rest (a.put o.dst v') w') : wpList Try.prog ops Q (o :: rest) a w := by
 obtain ⟨i, hi, hzz⟩ := Option.map_eq_some_iff.1 info108
 simp only [Prod.mk.injEq] at hzz
 obtain ⟨hz0, hz1, hz2⟩ := hzz
 have h32 : (Try.prog.underlying 35).isSome = true := by rw [Try.underlying35]; rfl
 refine wpList_plain hgd fun K hK => ?_
 have key : ∃ v' w', (Builtin.append_ #[35, 35] o.type #[v, .slice A ys.length c]).run Try.prog w = .ok v' w' ∧ Held w0 w' v' (xs ++ ys) N := by
  rcases H.room with ⟨rfl, rfl⟩ | ⟨g, cap, rfl, hc⟩
  ·obtain rfl : xs = [] := List.eq_nil_of_length_eq_zero (by omega)
   obtain rfl : ys = [] := List.eq_nil_of_length_eq_zero (by omega)
   refine ⟨.slice none 0 0, w, ?_, H⟩
   simp [Builtin.append_, run_underlying Try.underlying35, sizeOf, typeInfo, hi, Builtin.lenOf, firstCells0]
  ·rcases Nat.eq_zero_or_pos ys.length with h0 | h0
   ·obtain rfl : ys = [] := List.eq_nil_of_length_eq_zero h0
    refine ⟨.slice (some ⟨g, 0, none⟩) xs.length cap, w, ?_, by rw [List.append_nil]; exact H⟩
    have hle : xs.length ≤ cap := by omega
    simp [Builtin.append_, run_underlying Try.underlying35, sizeOf, typeInfo, hi, Builtin.lenOf, firstCells0, hle, storeCells]
   ·obtain ⟨ad, rfl, hcell⟩ := C_cells hC h0
    obtain ⟨w', hr, h2, h3⟩ := run_append_own_spare (P := Try.prog) w w0.heap.size 35 o.type 108 i 2 Try.underlying35 hi hz1 g xs.length cap (cs108 xs) H.own ad ys.length c (cs108 ys) (cs108_length ys) hcell (cs108_one ys) (by omega)
    refine ⟨_, w', hr, ⟨by rw [List.length_append, cs108_append]; exact h2, by rw [List.length_append]; exact .inr ⟨g, cap, rfl, hc⟩, H.below.grown h3 H.below.size (fun k hk => by cases hk; exact own_base H.own g rfl)⟩⟩
 obtain ⟨v', w', hr, hH⟩ := key
 unfold Oper.wp execOp
 simp only [ho, resolve, invoke, builtin, Sem.run_bind, Sem.run_pure, Result.andThen_ok, List.map_toArray, List.map_cons, List.map_nil, hs, hx, hr]
 exact hK _ _ (h v' w' hH)
theorem grow_calls (n : Nat) (w0 w : World) (hn : n ≤ 8796093021952) (hb : Below w0.heap.size w0 w) :
  Calls Try.prog 91 #[.slice none 0 0, .int .i64 n] w fun e w' => ∃ v, e = .returned v ∧ Held w0 w' v [] n := by
 by_cases h0 : n = 0
 ·subst h0
  go_enter Try.func91, Try.ntmps91
  go_wp2
  go_ret
  exact ⟨_, rfl, World.ownsRow_nil w _ _ _, .inl ⟨rfl, rfl⟩, hb⟩
 ·have hpos : (0 : Int) < (n : Int) := by omega
  have hp := jA (show 0 < n by omega)
  have HN := jA hn
  have HB := jA hb
  clear hb h0
  go_enter Try.func91, Try.ntmps91
  go_wp2_with (first | ((with_reducible refine gate_builtin (b := .append) (xs := #[.tmp 20, .tmp 21]) rfl ?_); at_builtin; refine wpList_zeros_nil w rfl (.tmp 20) (.tmp 21) 35 3 108 rfl Try.underlying35 Try.underlying3 (.agg #[.string ⟨#[]⟩, .string ⟨#[]⟩]) 2 32 info108 rfl (by decide) (by decide) w0.heap.size .i64 n rfl rfl hp.out ?hb HB.out.size ?_; (case hb => have := HN.out; omega); intro w2 g cap hown hg hcap; have HOWN := jA hown; have HG := jA hg; have HCAP := jA hcap; clear hown hg hcap))
  go_ret
  exact ⟨_, rfl, own_take HOWN.out (Nat.zero_le _), .inr ⟨g, cap, rfl, HCAP.out⟩, HB.out.grown HG.out HB.out.size (fun k hk => by cases hk)⟩
def pre (near far : List S108) (k : Nat) : List S108 := if k = 0 then [] else if k = 1 then near else near ++ far
def sums (n N : Nat) (k : Nat) : Nat := if k = 0 then 0 else if k = 1 then n else N
theorem concat_calls (A1 : Option Addr) (c1 : Nat) (near : List S108) (A2 : Option Addr) (c2 : Nat) (far : List S108) (b : Nat) (w : World) (hc0 : w.cell? ⟨b, 0, none⟩ = some (.slice A1 near.length c1)) (hc1 : w.cell? ⟨b, 1, none⟩ = some (.slice A2 far.length c2))
  (h1 : Kd.C k108 w A1 near.length near) (h2 : Kd.C k108 w A2 far.length far) (hsum : near.length + far.length ≤ 8796093021952) :
  Calls Try.prog 83 #[.slice (some ⟨b, 0, none⟩) 2 2] w fun e w' => ∃ v, e = .returned v ∧ Held w w' v (near ++ far) (near.length + far.length) := by
 have H1 := jA h1
 have H2 := jA h2
 clear h1 h2
 obtain ⟨N, hN⟩ : ∃ N, N = near.length + far.length := ⟨_, rfl⟩
 rw [← hN] at hsum ⊢
 have HC0 := jA hc0
 have HC1 := jA hc1
 go_enter Try.func83, Try.ntmps83
 go_wp2
 go_loopw [3, 11] (fun v3 v11 wr => ∃ k : Nat, k ≤ 2 ∧ v3 = .int .i64 (sums near.length N k) ∧ v11 = .int .i64 k ∧ wr = w) (fun _ v11 _ => 2 - (intOf v11).toNat)
 case atStart => exact ⟨0, by omega, rfl, rfl, rfl⟩
 case round =>
  obtain ⟨k, hk, rfl, rfl, hw⟩ := hrel
  have hw := hw.symm
  subst hw
  have h3 : k = 0 ∨ k = 1 ∨ k = 2 := by omega
  rcases h3 with rfl | rfl | rfl
  ·rw [show sums near.length N 0 = 0 from rfl]
   go_wp2
   go_roundw
   case rel => exact ⟨1, by omega, rfl, rfl, trivial⟩
   case measure => simp [intOf]
  ·rw [show sums near.length N 1 = near.length from rfl]
   go_wp2
   go_roundw
   case rel => exact ⟨2, by omega, by show _ = Value.int .i64 (N : Int); go_num, rfl, trivial⟩
   case measure => simp [intOf]
  ·rw [show sums near.length N 2 = N from rfl]
   have HN := jA hN
   clear hN
   go_upto_region 10 with (first | (go_at_call 91; (with_reducible refine (grow_calls N w w hsum (Below.refl _ _)).mono ?_); rintro e w2 ⟨v, rfl, hH⟩; have HH := jA hH; clear hH))
   have e0 := pw_cell_below HH.out.below HC0.out
   have e1 := pw_cell_below HH.out.below HC1.out
   go_wp2
   go_loopw [6, 27] (fun v6 v27 wq => ∃ k : Nat, k ≤ 2 ∧ v27 = .int .i64 k ∧ Aside0 (Held w wq v6 (pre near far k) N)) (fun _ v27 _ => 2 - (intOf v27).toNat)
   case atStart => exact ⟨0, by omega, rfl, HH⟩
   case round =>
    obtain ⟨k, hk, rfl, HR⟩ := hrel
    have h3 : k = 0 ∨ k = 1 ∨ k = 2 := by omega
    have e0 := pw_cell_below HR.out.below HC0.out
    have e1 := pw_cell_below HR.out.below HC1.out
    rcases h3 with rfl | rfl | rfl
    ·go_wp2_with (first | ((with_reducible refine gate_builtin (b := .append) (xs := #[.tmp 31, .tmp 32]) rfl ?_); at_builtin; refine wpList_app108 (w0 := w) rfl (.tmp 31) (.tmp 32) rfl _ [] near N rfl rfl HR.out (Kd.C_below H1.out HR.out.below) (by have := HN.out; simp; omega) ?_; intro v' w' hH'; have HH' := jA hH'; clear hH'))
     go_roundw
     case rel => exact ⟨1, by omega, rfl, HH'⟩
     case measure => simp [intOf]
    ·go_wp2_with (first | ((with_reducible refine gate_builtin (b := .append) (xs := #[.tmp 31, .tmp 32]) rfl ?_); at_builtin; refine wpList_app108 (w0 := w) rfl (.tmp 31) (.tmp 32) rfl _ near far N rfl rfl HR.out (Kd.C_below H2.out HR.out.below) (by have := HN.out; omega) ?_; intro v' w' hH'; have HH' := jA hH'; clear hH'))
     go_roundw
     case rel => exact ⟨2, by omega, rfl, HH'⟩
     case measure => simp [intOf]
    ·go_wp2
     go_ret
     exact ⟨_, rfl, HR.out⟩
end Go.Proofs.Ythaiodklfoegiaa.MConcat
/- mean.stand: a side of a name. -/
namespace Go.Proofs.Ythaiodklfoegiaa.MStand
open Go.RowKit YthaiodklfoegiaaW.PrintWords YthaiodklfoegiaaW.PrintLast YthaiodklfoegiaaW.PrintMore BMap BRow MLines MPut MClose MConcat Go.Maps
open PG
def IsSet (W : World) (b : Nat) (R : ByteArray → Prop) : Prop := ∃ f n, MapF Value.string unitV okS W b f n ∧ ∀ s, (f s).isSome = true ↔ R s
theorem IsSet.below {W W1 : World} {b : Nat} {R : ByteArray → Prop} (h : IsSet W b R) (hb : Below W.heap.size W W1) : IsSet W1 b R := by
 obtain ⟨f, n, h1, h2⟩ := h
 exact ⟨f, n, h1.below hb, h2⟩
theorem IsSet.lt {W : World} {b : Nat} {R : ByteArray → Prop} (h : IsSet W b R) : b < W.heap.size := by
 obtain ⟨f, n, h1, h2⟩ := h
 exact h1.lt
structure Var (w wr : World) (bs bm : Nat) (name : ByteArray) (R : ByteArray → Prop) : Prop where
 rvar : wr.heap[w.heap.size]? = some (.cells #[.string ⟨#[]⟩, .float .f64 0, .map none] 95 (0, 0))
 var : wr.heap[bs]? = some (.cells #[.string name, .float .f64 0, .map (some bm)] 95 (0, 0))
 set : IsSet wr bm R
 ne : bs ≠ bm
 gs : w.heap.size < bs
 gm : w.heap.size < bm
 below : Below w.heap.size w wr
theorem Var.move {w wr w1 : World} {bs bm : Nat} {name : ByteArray} {R : ByteArray → Prop} (h : Var w wr bs bm name R) (hb : Below wr.heap.size wr w1) : Var w w1 bs bm name R :=
 ⟨(hb.block _ (Array.getElem?_eq_some_iff.1 h.rvar).1).trans h.rvar, (hb.block _ (Array.getElem?_eq_some_iff.1 h.var).1).trans h.var, h.set.below hb, h.ne, h.gs, h.gm, below_then h.below h.below.size hb⟩
theorem Var.put {w wr w5 : World} {bs bm : Nat} {name : ByteArray} {R R' : ByteArray → Prop} {f : ByteArray → Option Unit} {n : Nat} (h : Var w wr bs bm name R) (hM : MapF Value.string unitV okS w5 bm f n) (hg : wr.grownBy w5 (some bm)) (hf : ∀ s, (f s).isSome = true ↔ R' s) : Var w w5 bs bm name R' :=
 ⟨(hg.block _ (Array.getElem?_eq_some_iff.1 h.rvar).1 (fun e => absurd (Option.some.inj e) (Nat.ne_of_lt h.gm))).trans h.rvar, (hg.block _ (Array.getElem?_eq_some_iff.1 h.var).1 (fun e => h.ne (Option.some.inj e))).trans h.var, ⟨f, n, hM, hf⟩, h.ne, h.gs, h.gm, h.below.grown hg h.below.size (fun k hk => by cases hk; exact Nat.le_of_lt h.gm)⟩
theorem z95 (w : World) : (zeroValue 95).run Try.prog w = .ok (.agg #[.string ⟨#[]⟩, .float .f64 0, .map none]) w := by kernel_rfl
theorem i95 : (Try.prog.info? 95).map (·.size) = some 3 := by kernel_rfl
theorem up_to (A : Option Addr) (c : Nat) (x : ByteArray) (w : World) (ps : List S108) (n : Nat) (hn : ps.length = n) (hC : Kd.C k108 w A ps.length ps) (hc : ps.length ≤ c) (hx : okS x) (hok : ∀ q ∈ ps, okS q.f0 ∧ okS q.f1) (hb : n ≤ 8796093021952) :
  Calls Try.prog 82 #[.slice A n c, .string x] w fun e w' => ∃ v, e = .returned v ∧ ∃ L, Kd.R Kd.string 9 w' w.heap.size (fun _ => True) v L ∧ L.Nodup ∧ (∀ s, s ∈ L ↔ MClose.Reach ps x s) ∧ Below w.heap.size w w' := by
 subst hn; exact up_calls A c x w ps hC hc hx hok hb
theorem stand_calls (name : ByteArray) (A1 : Option Addr) (c1 : Nat) (near : List S108) (A2 : Option Addr) (c2 : Nat) (far : List S108) (w : World)
  (h1 : Kd.C k108 w A1 near.length near) (h2 : Kd.C k108 w A2 far.length far) (hx : okS name) (hok : ∀ q ∈ near ++ far, okS q.f0 ∧ okS q.f1) (hsum : near.length + far.length ≤ 8796093021952) :
  Calls Try.prog 75 #[.string name, .slice A1 near.length c1, .slice A2 far.length c2] w fun e w' => ∃ b, e = .returned (.agg #[.string name, .float .f64 0, .map (some b)]) ∧ IsSet w' b (MClose.Reach (near ++ far) name) ∧ w.heap.size ≤ b ∧ Below w.heap.size w w' := by
 have H1 := jA h1
 have H2 := jA h2
 have HX := jA hx
 have HOK := jA hok
 have HS := jA hsum
 clear h1 h2 hx hok hsum
 have hmm := @run_makeMap Try.prog
 go_enter Try.func75, Try.ntmps75
 go_upto_region 2 with (first | ((with_reducible refine gate_dst (N := 7) rfl ?_); refine wpList_alloc_store rfl rfl 95 7 (.tmp 12) rfl rfl rfl #[.string ⟨#[]⟩, .float .f64 0, .map none] #[.string name, .float .f64 0, .map (some (w.heap.size + 1))] _ (z95 _) rfl i95 rfl (by simp [Value.oneCell']) ?hx ?hp ?_; (case hx => rfl); (case hp => rfl)))
 simp only [Act.put, List.setIfInBounds_toArray, List.set_cons_succ, List.set_cons_zero, World.size_alloc]
 obtain ⟨W, hW⟩ : ∃ W, W = (((w.alloc (.cells #[.string ⟨#[]⟩, .float .f64 0, .map none] 95)).alloc (.map #[] 0)).alloc (.cells #[.string name, .float .f64 0, .map (some (w.heap.size + 1))] 95)) := ⟨_, rfl⟩
 have hV : Var w W (w.heap.size + 1 + 1) (w.heap.size + 1) name (fun _ => False) := by
  subst hW
  have hmade := (MapF.made (kenc := Value.string) (venc := unitV) (ok := okS) (w.alloc (.cells #[.string ⟨#[]⟩, .float .f64 0, .map none] 95))).alloc (.cells #[.string name, .float .f64 0, .map (some (w.heap.size + 1))] 95)
  rw [World.size_alloc] at hmade
  refine ⟨?_, ?_, ⟨fun _ => none, 0, hmade, fun s => by simp⟩, by omega, by omega, by omega, below_alloc (below_alloc (below_alloc (Below.refl _ _) _) _) _⟩
  ·exact (Below.heap_alloc _ _ _ (by simp only [World.size_alloc]; omega)).trans ((Below.heap_alloc _ _ _ (by simp only [World.size_alloc]; omega)).trans (heap_alloc_new w _))
  ·have h1 := heap_alloc_new ((w.alloc (.cells #[.string ⟨#[]⟩, .float .f64 0, .map none] 95)).alloc (.map #[] 0)) (.cells #[.string name, .float .f64 0, .map (some (w.heap.size + 1))] 95)
   rw [World.size_alloc, World.size_alloc] at h1
   exact h1
 rw [← hW]
 have HV := jA hV
 clear hmm hW hV
 have HV2 := jA (HV.out.move (below_alloc (Below.refl _ W) (.cells #[.slice A1 near.length c1, .slice A2 far.length c2] 35)))
 have hc0 : (W.alloc (.cells #[.slice A1 near.length c1, .slice A2 far.length c2] 35)).cell? ⟨W.heap.size, 0, none⟩ = some (.slice A1 near.length c1) := by go_simp
 have hc1 : (W.alloc (.cells #[.slice A1 near.length c1, .slice A2 far.length c2] 35)).cell? ⟨W.heap.size, 1, none⟩ = some (.slice A2 far.length c2) := by go_simp
 have HWW := jA (show W.heap.size < (W.alloc (.cells #[.slice A1 near.length c1, .slice A2 far.length c2] 35)).heap.size by simp)
 have HC0 := jA hc0
 have HC1 := jA hc1
 clear hc0 hc1
 go_upto_region 3 with (first | (go_at_call 83; (with_reducible refine (concat_calls A1 c1 near A2 c2 far W.heap.size _ HC0.out HC1.out (Kd.C_below H1.out HV2.out.below) (Kd.C_below H2.out HV2.out.below) HS.out).mono ?_); rintro e w2 ⟨v2, rfl, hH⟩; obtain ⟨A3, c3, rfl, hl3, hC3⟩ := hH.read (by simp) (by have := HS.out; omega); have HV3 := jA (HV2.out.move hH.below); have HB3 := jA hH.below.size; have HC3 := jA hC3; have HL3 := jA hl3; clear hH hC3 hl3) | (go_at_call 82; (with_reducible refine (up_to A3 c3 name _ (near ++ far) _ List.length_append HC3.out HL3.out HX.out HOK.out HS.out).mono ?_); rintro e w4 ⟨v4, rfl, L, hR, hN, hS, hB4⟩; obtain ⟨A4, c4, rfl, hl4, hC4⟩ := Kd.R_reads hR; have HV4 := jA (HV3.out.move hB4); have HC4 := jA hC4; have HN4 := jA hN; have HS4 := jA hS; have HR4 := jA (Kd.R_lower (Kd.R_mono (Kd.R_bound hR) (ok' := fun k => w.heap.size + 2 < k) (fun k hk => Nat.lt_of_lt_of_le (Nat.lt_of_lt_of_le (Array.getElem?_eq_some_iff.1 HV.out.var).1 (Nat.le_trans (Nat.le_of_lt HWW.out) HB3.out)) hk.2.1)) HV3.out.below.size); clear hR hN hS hB4 hC4))
 have hmax : L.length ≤ 9223372036854775807 := HC4.out.2.1
 go_loopw [20] (fun u wr => ∃ k : Nat, k ≤ L.length ∧ u = .int .i64 k ∧ Aside0 (Var w wr (w.heap.size + 1 + 1) (w.heap.size + 1) name (fun s => s ∈ L.take k)) ∧ Aside0 (Kd.R Kd.string 9 wr w.heap.size (fun k => w.heap.size + 2 < k) (.slice A4 L.length c4) L)) (fun u _ => L.length - (intOf u).toNat)
 case atStart => exact ⟨0, Nat.zero_le _, rfl, ⟨by simpa using HV4.out⟩, HR4⟩
 case round =>
  obtain ⟨k, hk, rfl, HR, HRow⟩ := hrel
  by_cases hlt : k < L.length
  ·obtain ⟨A5, c5, he5, _, hC5⟩ := Kd.R_reads HRow.out
   obtain ⟨rfl, rfl⟩ : A4 = A5 ∧ c4 = c5 := by simpa using he5
   obtain ⟨ad, e0, hx⟩ := Kd.at_string hC5 (k : Int) (by omega) (by omega)
   have hget : rdOf ByteArray.empty L (k : Int) = L[k] := by simp [rdOf, hlt]
   simp only [hget, Int.toNat_natCast] at hx
   cases e0
   obtain ⟨x, hxx⟩ : ∃ x, x = L[k] := ⟨_, rfl⟩
   rw [← hxx] at hx
   have hxok : okS x := by
    have hr : MClose.Reach (near ++ far) name x := (HS4.out x).1 (by rw [hxx]; exact List.getElem_mem hlt)
    rcases reach_in hr with e | h
    ·rw [e]; exact HX.out
    ·obtain ⟨q, hq, e⟩ := List.mem_map.1 h
     rw [← e]; exact (HOK.out q hq).2
   have HXO := jA hxok
   have HXX := jA hxx
   clear hC5 hget hxx hxok he5
   have hmv : wr.cell? ⟨w.heap.size + 1 + 1, 2, none⟩ = some (.map (some (w.heap.size + 1))) := by rw [cell_of_row _ _ _ _ _ _ HR.out.var]; rfl
   obtain ⟨f, n, hM, hf⟩ := HR.out.set
   obtain ⟨w5, hrun, hM5, hg5⟩ := hM.update str_key Try.underlying93 HXO.out ()
   have Za : (Instr.mapUpdate 93 (.map (some (w.heap.size + 1))) (.string x) (.agg #[])).run Try.prog wr = .ok () w5 := hrun
   have c0' : (k : Int) < L.length := by omega
   have HM5 := jA hM5
   have HG5 := jA hg5
   have HF := jA hf
   clear hM hM5 hg5 hrun hf
   go_wp2
   go_roundw
   case rel =>
    refine ⟨k + 1, by omega, by go_num, ⟨HR.out.put HM5.out HG5.out ?_⟩, ⟨Kd.R_grown HRow.out HG5.out (fun k hk e => by cases e; omega)⟩⟩
    intro s
    have hfs := HF.out s
    simp only [] at hfs
    rw [List.take_succ_eq_append_getElem hlt, List.mem_append, List.mem_singleton, ← HXX.out, ← hfs]
    by_cases e : s = x
    ·subst e; simp [upd_same]
    ·rw [upd_other _ _ e]; simp [e]
   case measure => simp [intOf]; omega
  ·have hkk : k = L.length := by omega
   subst hkk
   have hV := HR.out
   rw [List.take_length] at hV
   have HV6 := jA hV
   clear HR hV
   have hrange : wr.rangeAt (w.heap.size + 1 + 1) 0 [.string name, .float .f64 0, .map (some (w.heap.size + 1))] := fun j v hv => by
    rw [cell_of_row _ _ _ _ _ _ HV6.out.var, Nat.zero_add, ← hv]; simp
   have hthere : wr.there w.heap.size 0 3 := fun j hj => by
    rw [cell_of_row _ _ _ _ _ _ HV6.out.rvar, Nat.zero_add]
    exact ⟨by simp [hj], MPut.frozen_of_row HV6.out.rvar _⟩
   have HRG := jA hrange
   have HTH := jA hthere
   clear hrange hthere
   go_wp2_with (first | ((with_reducible refine gate_dst (N := 29) rfl ?_); refine wpList_load_mid rfl 95 (.tmp 7) rfl (w.heap.size + 1 + 1) 0 ?hx [.string name, .float .f64 0, .map (some (w.heap.size + 1))] _ HRG.out Try.underlying95 rfl i95 ?_; (case hx => rfl); refine wpList_store_mid rfl 95 (.tmp 6) (.tmp 29) rfl w.heap.size 0 #[.string name, .float .f64 0, .map (some (w.heap.size + 1))] ?hx ?hy HTH.out i95 (by simp [Value.oneCell']) ?_; (case hx => rfl); (case hy => rfl)))
   obtain ⟨cur, h3, h4, h5⟩ := setCells_row [.string name, .float .f64 0, .map (some (w.heap.size + 1))] 0 wr _ HV6.out.rvar (by simp)
   have hcur : cur = #[.string name, .float .f64 0, .map (some (w.heap.size + 1))] := by
    apply Array.ext'
    rw [h5]
    simp
   subst hcur
   obtain ⟨s1, s2, s3, s4⟩ := setCells_same w.heap.size [.string name, .float .f64 0, .map (some (w.heap.size + 1))] 0 wr
   (try simp only [Exit.inBlock, Exit.then])
   refine bodyPost_ret (results_single rfl (.cell w.heap.size 95 _ (0, 0) _ rfl h3 Try.underlying95 rfl i95 .nil)) rfl ?_
   have hfar : ∀ k, k ≠ w.heap.size → (wr.setCells w.heap.size 0 [.string name, .float .f64 0, .map (some (w.heap.size + 1))]).heap[k]? = wr.heap[k]? := fun k hk => setCells_far _ _ k hk
   obtain ⟨f, n, hM, hf⟩ := HV6.out.set
   refine ⟨_, rfl, ⟨f, n, hM.move (hfar _ (by omega)), fun s => (hf s).trans (HS4.out s)⟩, by omega, ⟨s1.trans HV6.out.below.os, s2.trans HV6.out.below.tape, s3.trans HV6.out.below.output, by rw [s4]; exact HV6.out.below.size, fun k hk => (hfar k (by omega)).trans (HV6.out.below.block k hk)⟩⟩
end Go.Proofs.Ythaiodklfoegiaa.MStand
namespace Go.Proofs.Ythaiodklfoegiaa.PG
open YthaiodklfoegiaaF
attribute [local go_sem high] run_feq run_fne run_flt_lt run_flt_le run_flt_gt run_flt_ge
open Go.RowKit YthaiodklfoegiaaW.PrintWords YthaiodklfoegiaaW.PrintLast YthaiodklfoegiaaW.PrintMore
attribute [local go_sem] max2_int min2_int max_two min_two max_three min_three max_four min_four
def mean_Passes.f (Zf : Bool) (Zg : ByteArray) (Zh : ByteArray) (Ze : List ByteArray) (Zc : Int) (Zd : Nat) (a1 : Nat) : Option (Bool) := if Zc = 0 then (some true) else (if Zc = 1 then (some (flt_ge a1 Zd)) else (if Zc = 2 then (some (flt_lt a1 Zd)) else (some false)))
theorem mean_Passes.calls (Zf : Bool) (Zg : ByteArray) (Zh : ByteArray) (Zj : Option Addr) (Zk : Nat) (Ze : List ByteArray) (Zc : Int) (Zd : Nat) (a1 : Nat) (r : Bool) (w : World) (Zm : Kd.C Kd.string w Zj Ze.length Ze) (Zn : Ze.length ≤ Zk) (h : mean_Passes.f Zf Zg Zh Ze Zc Zd a1 = some r) :
  Calls Try.prog 86 #[.agg #[.bool Zf, .string Zg, .string Zh, .slice Zj Ze.length Zk, .int .i8 Zc, .float .f64 Zd], .float .f64 a1] w fun e w' => e = .returned (.bool r) ∧ Below w.heap.size w w' := by
 have Yc := Try.underlying78
 have Ya := jA Zm
 have Yb := jA Zn
 clear Zm Zn
 have HB := jA (Below.refl w.heap.size w)
 have H : (if Zc = 0 then (some true) else (if Zc = 1 then (some (flt_ge a1 Zd)) else (if Zc = 2 then (some (flt_lt a1 Zd)) else (some false)))) = some r := h
 clear h
 by_cases c3 : Zc = 0
 ·rw [if_pos c3] at H
  have c3b0 : (Zc == 0) = true := beq_iff_eq.mpr c3
  have c3b1 : (Zc != 0) = false := bne_eq_false_iff_eq.mpr c3
  clear c3
  obtain rfl := Option.some.inj H
  go_enter Try.func86, Try.ntmps86
  go_wp2_with (first | ((with_reducible refine gate_dst (N := 2) rfl ?_); refine box_event ?hg (N := 2) ?hd (cs := #[.bool Zf, .string Zg, .string Zh, .slice Zj Ze.length Zk, .int .i8 Zc, .float .f64 Zd]) (t := 78) ?hr ?_; (case hd => rfl); (case hg => rfl); (case hr => first | (go_simp; done) | (go_simp; rfl)); intro Zb hg w4 hbox hb; have n0_ := jA (below_step (by repeat (first | (with_reducible first | exact HB.out | apply below_alloc | apply pw_below_drewN | apply below_drew1) | exact HB.out)) hb); have n1_ := jA (hbox); have n2_ := jA ((by rw [hg]; exact (below_size (by repeat (first | (with_reducible first | exact HB.out | apply below_alloc | apply pw_below_drewN | apply below_drew1) | exact HB.out))) : w.heap.size ≤ Zb)); have n3_ := jA ((by rw [hg]; exact (below_size (by repeat (first | (with_reducible first | exact HB.out | apply below_alloc | apply pw_below_drewN | apply below_drew1) | exact HB.out))) : w.heap.size ≤ Zb)); clear HB; have HB := n0_; have Za := n1_; have Zl := n2_; have Zi := n3_; clear n0_ n1_ n2_ n3_; clear hb hbox hg; have ZM : w4.cell? ⟨Zb, 0, none⟩ = some (.bool Zf) := (blk_cell Za.out 0).trans rfl; have ZN : w4.cell? ⟨Zb, 1, none⟩ = some (.string Zg) := (blk_cell Za.out 1).trans rfl; have ZO : w4.cell? ⟨Zb, 2, none⟩ = some (.string Zh) := (blk_cell Za.out 2).trans rfl; have ZP : w4.cell? ⟨Zb, 3, none⟩ = some (.slice Zj Ze.length Zk) := (blk_cell Za.out 3).trans rfl; have ZQ : w4.cell? ⟨Zb, 4, none⟩ = some (.int .i8 Zc) := (blk_cell Za.out 4).trans rfl; have ZR : w4.cell? ⟨Zb, 5, none⟩ = some (.float .f64 Zd) := (blk_cell Za.out 5).trans rfl; have ZS := blk_frozen Za.out 0; have ZT := blk_frozen Za.out 1; have ZU := blk_frozen Za.out 2; have ZV := blk_frozen Za.out 3; have ZW := blk_frozen Za.out 4; have ZX := blk_frozen Za.out 5))
  go_ret
  exact ⟨by first | rfl | (simp [errW_none, errW_some] <;> rfl) | (simp [*, errW_none, errW_some] <;> rfl), by repeat (first | (with_reducible first | exact HB.out | apply below_alloc | apply pw_below_drewN | apply below_drew1 | refine below_set ?_ Zi.out) | exact HB.out)⟩
 ·rw [if_neg c3] at H
  have c3b0 : (Zc == 0) = false := beq_eq_false_iff_ne.mpr c3
  have c3b1 : (Zc != 0) = true := bne_iff_ne.mpr c3
  by_cases c6 : Zc = 1
  ·rw [if_pos c6] at H
   have c6b0 : (Zc == 1) = true := beq_iff_eq.mpr c6
   have c6b1 : (Zc != 1) = false := bne_eq_false_iff_eq.mpr c6
   clear c6
   obtain rfl := Option.some.inj H
   go_enter Try.func86, Try.ntmps86
   go_wp2_with (first | ((with_reducible refine gate_dst (N := 2) rfl ?_); refine box_event ?hg (N := 2) ?hd (cs := #[.bool Zf, .string Zg, .string Zh, .slice Zj Ze.length Zk, .int .i8 Zc, .float .f64 Zd]) (t := 78) ?hr ?_; (case hd => rfl); (case hg => rfl); (case hr => first | (go_simp; done) | (go_simp; rfl)); intro Zb hg w7 hbox hb; have n0_ := jA (below_step (by repeat (first | (with_reducible first | exact HB.out | apply below_alloc | apply pw_below_drewN | apply below_drew1) | exact HB.out)) hb); have n1_ := jA (hbox); have n2_ := jA ((by rw [hg]; exact (below_size (by repeat (first | (with_reducible first | exact HB.out | apply below_alloc | apply pw_below_drewN | apply below_drew1) | exact HB.out))) : w.heap.size ≤ Zb)); have n3_ := jA ((by rw [hg]; exact (below_size (by repeat (first | (with_reducible first | exact HB.out | apply below_alloc | apply pw_below_drewN | apply below_drew1) | exact HB.out))) : w.heap.size ≤ Zb)); clear HB; have HB := n0_; have Za := n1_; have Zl := n2_; have Zi := n3_; clear n0_ n1_ n2_ n3_; clear hb hbox hg; have ZY : w7.cell? ⟨Zb, 0, none⟩ = some (.bool Zf) := (blk_cell Za.out 0).trans rfl; have ZZ : w7.cell? ⟨Zb, 1, none⟩ = some (.string Zg) := (blk_cell Za.out 1).trans rfl; have Z0 : w7.cell? ⟨Zb, 2, none⟩ = some (.string Zh) := (blk_cell Za.out 2).trans rfl; have Z1 : w7.cell? ⟨Zb, 3, none⟩ = some (.slice Zj Ze.length Zk) := (blk_cell Za.out 3).trans rfl; have Z2 : w7.cell? ⟨Zb, 4, none⟩ = some (.int .i8 Zc) := (blk_cell Za.out 4).trans rfl; have Z3 : w7.cell? ⟨Zb, 5, none⟩ = some (.float .f64 Zd) := (blk_cell Za.out 5).trans rfl; have Z4 := blk_frozen Za.out 0; have Z5 := blk_frozen Za.out 1; have Z6 := blk_frozen Za.out 2; have Z7 := blk_frozen Za.out 3; have Z8 := blk_frozen Za.out 4; have Z9 := blk_frozen Za.out 5))
   go_ret
   exact ⟨by first | rfl | (simp [errW_none, errW_some] <;> rfl) | (simp [*, errW_none, errW_some] <;> rfl), by repeat (first | (with_reducible first | exact HB.out | apply below_alloc | apply pw_below_drewN | apply below_drew1 | refine below_set ?_ Zi.out) | exact HB.out)⟩
  ·rw [if_neg c6] at H
   have c6b0 : (Zc == 1) = false := beq_eq_false_iff_ne.mpr c6
   have c6b1 : (Zc != 1) = true := bne_iff_ne.mpr c6
   by_cases c9 : Zc = 2
   ·rw [if_pos c9] at H
    have c9b0 : (Zc == 2) = true := beq_iff_eq.mpr c9
    have c9b1 : (Zc != 2) = false := bne_eq_false_iff_eq.mpr c9
    clear c9
    obtain rfl := Option.some.inj H
    go_enter Try.func86, Try.ntmps86
    go_wp2_with (first | ((with_reducible refine gate_dst (N := 2) rfl ?_); refine box_event ?hg (N := 2) ?hd (cs := #[.bool Zf, .string Zg, .string Zh, .slice Zj Ze.length Zk, .int .i8 Zc, .float .f64 Zd]) (t := 78) ?hr ?_; (case hd => rfl); (case hg => rfl); (case hr => first | (go_simp; done) | (go_simp; rfl)); intro Zb hg w10 hbox hb; have n0_ := jA (below_step (by repeat (first | (with_reducible first | exact HB.out | apply below_alloc | apply pw_below_drewN | apply below_drew1) | exact HB.out)) hb); have n1_ := jA (hbox); have n2_ := jA ((by rw [hg]; exact (below_size (by repeat (first | (with_reducible first | exact HB.out | apply below_alloc | apply pw_below_drewN | apply below_drew1) | exact HB.out))) : w.heap.size ≤ Zb)); have n3_ := jA ((by rw [hg]; exact (below_size (by repeat (first | (with_reducible first | exact HB.out | apply below_alloc | apply pw_below_drewN | apply below_drew1) | exact HB.out))) : w.heap.size ≤ Zb)); clear HB; have HB := n0_; have Za := n1_; have Zl := n2_; have Zi := n3_; clear n0_ n1_ n2_ n3_; clear hb hbox hg; have Zo : w10.cell? ⟨Zb, 0, none⟩ = some (.bool Zf) := (blk_cell Za.out 0).trans rfl; have Zp : w10.cell? ⟨Zb, 1, none⟩ = some (.string Zg) := (blk_cell Za.out 1).trans rfl; have Zq : w10.cell? ⟨Zb, 2, none⟩ = some (.string Zh) := (blk_cell Za.out 2).trans rfl; have Zr : w10.cell? ⟨Zb, 3, none⟩ = some (.slice Zj Ze.length Zk) := (blk_cell Za.out 3).trans rfl; have Zs : w10.cell? ⟨Zb, 4, none⟩ = some (.int .i8 Zc) := (blk_cell Za.out 4).trans rfl; have Zt : w10.cell? ⟨Zb, 5, none⟩ = some (.float .f64 Zd) := (blk_cell Za.out 5).trans rfl; have Zu := blk_frozen Za.out 0; have Zv := blk_frozen Za.out 1; have Zw := blk_frozen Za.out 2; have Zx := blk_frozen Za.out 3; have Zy := blk_frozen Za.out 4; have Zz := blk_frozen Za.out 5))
    go_ret
    exact ⟨by first | rfl | (simp [errW_none, errW_some] <;> rfl) | (simp [*, errW_none, errW_some] <;> rfl), by repeat (first | (with_reducible first | exact HB.out | apply below_alloc | apply pw_below_drewN | apply below_drew1 | refine below_set ?_ Zi.out) | exact HB.out)⟩
   ·rw [if_neg c9] at H
    have c9b0 : (Zc == 2) = false := beq_eq_false_iff_ne.mpr c9
    have c9b1 : (Zc != 2) = true := bne_iff_ne.mpr c9
    obtain rfl := Option.some.inj H
    go_enter Try.func86, Try.ntmps86
    go_wp2_with (first | ((with_reducible refine gate_dst (N := 2) rfl ?_); refine box_event ?hg (N := 2) ?hd (cs := #[.bool Zf, .string Zg, .string Zh, .slice Zj Ze.length Zk, .int .i8 Zc, .float .f64 Zd]) (t := 78) ?hr ?_; (case hd => rfl); (case hg => rfl); (case hr => first | (go_simp; done) | (go_simp; rfl)); intro Zb hg w12 hbox hb; have n0_ := jA (below_step (by repeat (first | (with_reducible first | exact HB.out | apply below_alloc | apply pw_below_drewN | apply below_drew1) | exact HB.out)) hb); have n1_ := jA (hbox); have n2_ := jA ((by rw [hg]; exact (below_size (by repeat (first | (with_reducible first | exact HB.out | apply below_alloc | apply pw_below_drewN | apply below_drew1) | exact HB.out))) : w.heap.size ≤ Zb)); have n3_ := jA ((by rw [hg]; exact (below_size (by repeat (first | (with_reducible first | exact HB.out | apply below_alloc | apply pw_below_drewN | apply below_drew1) | exact HB.out))) : w.heap.size ≤ Zb)); clear HB; have HB := n0_; have Za := n1_; have Zl := n2_; have Zi := n3_; clear n0_ n1_ n2_ n3_; clear hb hbox hg; have ZA : w12.cell? ⟨Zb, 0, none⟩ = some (.bool Zf) := (blk_cell Za.out 0).trans rfl; have ZB : w12.cell? ⟨Zb, 1, none⟩ = some (.string Zg) := (blk_cell Za.out 1).trans rfl; have ZC : w12.cell? ⟨Zb, 2, none⟩ = some (.string Zh) := (blk_cell Za.out 2).trans rfl; have ZD : w12.cell? ⟨Zb, 3, none⟩ = some (.slice Zj Ze.length Zk) := (blk_cell Za.out 3).trans rfl; have ZE : w12.cell? ⟨Zb, 4, none⟩ = some (.int .i8 Zc) := (blk_cell Za.out 4).trans rfl; have ZF : w12.cell? ⟨Zb, 5, none⟩ = some (.float .f64 Zd) := (blk_cell Za.out 5).trans rfl; have ZG := blk_frozen Za.out 0; have ZH := blk_frozen Za.out 1; have ZI := blk_frozen Za.out 2; have ZJ := blk_frozen Za.out 3; have ZK := blk_frozen Za.out 4; have ZL := blk_frozen Za.out 5))
    go_ret
    exact ⟨by first | rfl | (simp [errW_none, errW_some] <;> rfl) | (simp [*, errW_none, errW_some] <;> rfl), by repeat (first | (with_reducible first | exact HB.out | apply below_alloc | apply pw_below_drewN | apply below_drew1 | refine below_set ?_ Zi.out) | exact HB.out)⟩
end Go.Proofs.Ythaiodklfoegiaa.PG
/- mean: a side's names, who speaks. -/
namespace Go.Proofs.Ythaiodklfoegiaa.MSide
open Go.RowKit YthaiodklfoegiaaW.PrintWords YthaiodklfoegiaaW.PrintLast YthaiodklfoegiaaW.PrintMore BMap BRow MLines MPut MClose MConcat MStand Go.Maps
open PG YthaiodklfoegiaaF
theorem wpList_load_blk {P : Program} {w : World} {ops : Array Oper} {rest : List Oper} {op : Oper} {a : Act} {Q : Exit → Act → World → Prop} (hgd : op.guard = none) (ty : TypeId) (x : Operand) (ho : op.op = .load ty x) (g : Nat) (hx : a.eval x = .pointer (some ⟨g, 0, none⟩))
  (cs : Array Value) (t : TypeId) (hg : w.heap[g]? = some (.cells cs t (0, 0))) (d : TypeDesc) (hu : P.underlying ty = some d) (hd : d.isRow = true) (hi : (P.info? ty).map (·.size) = some cs.size) (h : wpList P ops Q rest (a.put op.dst (.agg cs)) w) : wpList P ops Q (op :: rest) a w := by
 refine wpList_load_mid hgd ty x ho g 0 hx cs.toList d (fun j v hv => ?_) hu hd (by simpa using hi) (by simpa using h)
 rw [cell_of_row _ _ _ _ _ _ hg, Nat.zero_add, ← hv]; simp
open Classical in
theorem has_calls (nm : ByteArray) (tr b : Nat) (s : ByteArray) (R : ByteArray → Prop) (w : World) (hS : IsSet w b R) (hs : okS s) :
  Calls Try.prog 85 #[.agg #[.string nm, .float .f64 tr, .map (some b)], .string s] w fun e w' => e = .returned (.bool (decide (R s))) ∧ Below w.heap.size w w' := by
 obtain ⟨f, n, hM, hf⟩ := hS
 have hlk := (hM.alloc (.cells #[.string nm, .float .f64 tr, .map (some b)] 95)).lookup str_key Try.underlying93 (z121 _) hs true
 have hz : ∀ w, (zeroValue 121).run Try.prog w = .ok (.agg #[]) w := z121
 have hu := Try.underlying121
 have hr : (f s).isSome = decide (R s) := by rw [Bool.eq_iff_iff, decide_eq_true_iff]; exact hf s
 have hv : ((f s).map unitV).getD (.agg #[]) = .agg #[] := by cases f s <;> rfl
 rw [hv, hr] at hlk
 simp only [if_true] at hlk
 clear hM hf hr hv
 go_enter Try.func85, Try.ntmps85
 go_wp2
 go_ret
 exact ⟨rfl, by repeat (first | exact Below.refl _ _ | refine below_alloc ?_ _)⟩
def passB (r : S78) (tr : Nat) : Bool := if r.f4 = 0 then true else if r.f4 = 1 then flt_ge tr r.f5 else if r.f4 = 2 then flt_lt tr r.f5 else false
theorem passes_f (r : S78) (tr : Nat) : mean_Passes.f r.f0 r.f1 r.f2 r.f3 r.f4 r.f5 tr = some (passB r tr) := by
 unfold mean_Passes.f passB
 split
 ·rfl
 ·split
  ·rfl
  ·split <;> rfl
def ruleV (r : S78) (A3 : Option Addr) (c3 : Nat) : Array Value := #[.bool r.f0, .string r.f1, .string r.f2, .slice A3 r.f3.length c3, .int .i8 r.f4, .float .f64 r.f5]
theorem passes_calls (r : S78) (A3 : Option Addr) (c3 : Nat) (tr : Nat) (w : World) (h : Kd.C Kd.string w A3 r.f3.length r.f3) (hc : r.f3.length ≤ c3) :
  Calls Try.prog 86 #[.agg (ruleV r A3 c3), .float .f64 tr] w fun e w' => e = .returned (.bool (passB r tr)) ∧ Below w.heap.size w w' :=
 mean_Passes.calls r.f0 r.f1 r.f2 A3 c3 r.f3 r.f4 r.f5 tr (passB r tr) w h hc (passes_f r tr)
def Stays (w : World) (g : Nat) (cs : Array Value) (t : TypeId) : Prop := w.heap[g]? = some (.cells cs t (0, 0))
theorem Stays.below {w w1 : World} {g : Nat} {cs : Array Value} {t : TypeId} (h : Stays w g cs t) (hb : Below w.heap.size w w1) : Stays w1 g cs t := (hb.block _ (Array.getElem?_eq_some_iff.1 h).1).trans h
theorem Stays.cell {w : World} {g : Nat} {cs : Array Value} {t : TypeId} (h : Stays w g cs t) (j : Nat) : w.cell? ⟨g, j, none⟩ = cs[j]? := cell_of_row _ _ _ _ _ _ h
open Classical in
noncomputable def speaksB (r : S78) (Rs Ro : ByteArray → Prop) (tr : Nat) : Bool := decide (Rs r.f1) && (decide (Ro r.f2) && passB r tr)
def sideV (nm : ByteArray) (tr b : Nat) : Array Value := #[.string nm, .float .f64 tr, .map (some b)]
structure Three (w W : World) (r : S78) (A3 : Option Addr) (c3 : Nat) (n1 : ByteArray) (t1 b1 : Nat) (R1 : ByteArray → Prop) (n2 : ByteArray) (t2 b2 : Nat) (R2 : ByteArray → Prop) : Prop where
 below : Below w.heap.size w W
 s0 : Stays W w.heap.size (ruleV r A3 c3) 78
 s1 : Stays W (w.heap.size + 1) (sideV n1 t1 b1) 95
 s2 : Stays W (w.heap.size + 1 + 1) (sideV n2 t2 b2) 95
 set1 : IsSet W b1 R1
 set2 : IsSet W b2 R2
 row : Kd.C Kd.string W A3 r.f3.length r.f3
theorem Three.move {w W W1 : World} {r : S78} {A3 : Option Addr} {c3 : Nat} {n1 : ByteArray} {t1 b1 : Nat} {R1 : ByteArray → Prop} {n2 : ByteArray} {t2 b2 : Nat} {R2 : ByteArray → Prop} (h : Three w W r A3 c3 n1 t1 b1 R1 n2 t2 b2 R2) (hb : Below W.heap.size W W1) : Three w W1 r A3 c3 n1 t1 b1 R1 n2 t2 b2 R2 :=
 ⟨below_then h.below h.below.size hb, h.s0.below hb, h.s1.below hb, h.s2.below hb, h.set1.below hb, h.set2.below hb, Kd.C_below h.row hb⟩
theorem i78 : (Try.prog.info? 78).map (·.size) = some 6 := by kernel_rfl
theorem has_go (nm : ByteArray) (tr b : Nat) (s : ByteArray) (R : ByteArray → Prop) (w : World) (q : Bool) (hq : (open Classical in decide (R s)) = q) (hS : IsSet w b R) (hs : okS s) :
  Calls Try.prog 85 #[.agg #[.string nm, .float .f64 tr, .map (some b)], .string s] w fun e w' => e = .returned (.bool q) ∧ Below w.heap.size w w' := by
 subst hq; exact has_calls nm tr b s R w hS hs
theorem passes_go (r : S78) (A3 : Option Addr) (c3 : Nat) (tr : Nat) (w : World) (q : Bool) (hq : passB r tr = q) (h : Kd.C Kd.string w A3 r.f3.length r.f3) (hc : r.f3.length ≤ c3) :
  Calls Try.prog 86 #[.agg #[.bool r.f0, .string r.f1, .string r.f2, .slice A3 r.f3.length c3, .int .i8 r.f4, .float .f64 r.f5], .float .f64 tr] w fun e w' => e = .returned (.bool q) ∧ Below w.heap.size w w' := by
 subst hq; exact passes_calls r A3 c3 tr w h hc
theorem speaks_calls (r : S78) (A3 : Option Addr) (c3 : Nat) (n1 : ByteArray) (t1 b1 : Nat) (R1 : ByteArray → Prop) (n2 : ByteArray) (t2 b2 : Nat) (R2 : ByteArray → Prop) (w : World)
  (hC : Kd.C Kd.string w A3 r.f3.length r.f3) (hc : r.f3.length ≤ c3) (h1 : IsSet w b1 R1) (h2 : IsSet w b2 R2) (o1 : okS r.f1) (o2 : okS r.f2) :
  Calls Try.prog 78 #[.agg (ruleV r A3 c3), .agg (sideV n1 t1 b1), .agg (sideV n2 t2 b2)] w fun e w' => e = .returned (.bool (speaksB r R1 R2 t1)) ∧ Below w.heap.size w w' := by
 have HCC := jA hc
 have O1 := jA o1
 have O2 := jA o2
 have hT : Three w (((w.alloc (.cells (ruleV r A3 c3) 78)).alloc (.cells (sideV n1 t1 b1) 95)).alloc (.cells (sideV n2 t2 b2) 95)) r A3 c3 n1 t1 b1 R1 n2 t2 b2 R2 := by
  have hb1 : Below w.heap.size w (w.alloc (.cells (ruleV r A3 c3) 78)) := below_alloc (Below.refl _ _) _
  have hb2 := below_alloc hb1 (.cells (sideV n1 t1 b1) 95)
  have hb3 := below_alloc hb2 (.cells (sideV n2 t2 b2) 95)
  have e1 := heap_alloc_new (w.alloc (.cells (ruleV r A3 c3) 78)) (.cells (sideV n1 t1 b1) 95)
  have e2 := heap_alloc_new ((w.alloc (.cells (ruleV r A3 c3) 78)).alloc (.cells (sideV n1 t1 b1) 95)) (.cells (sideV n2 t2 b2) 95)
  rw [World.size_alloc] at e1
  rw [World.size_alloc, World.size_alloc] at e2
  exact ⟨hb3, (Below.heap_alloc _ _ _ (by simp only [World.size_alloc]; omega)).trans ((Below.heap_alloc _ _ _ (by simp only [World.size_alloc]; omega)).trans (heap_alloc_new w _)), (Below.heap_alloc _ _ _ (by simp only [World.size_alloc]; omega)).trans e1, e2, h1.below hb3, h2.below hb3, Kd.C_below hC hb3⟩
 have HT := jA hT
 clear hC hc h1 h2 o1 o2 hT
 obtain ⟨q1, hq1⟩ : ∃ q, (open Classical in decide (R1 r.f1)) = q := ⟨_, rfl⟩
 obtain ⟨q2, hq2⟩ : ∃ q, (open Classical in decide (R2 r.f2)) = q := ⟨_, rfl⟩
 obtain ⟨q3, hq3⟩ : ∃ q, passB r t1 = q := ⟨_, rfl⟩
 have hres : speaksB r R1 R2 t1 = (q1 && (q2 && q3)) := by unfold speaksB; rw [hq1, hq2, hq3]
 rw [hres]
 have Q1 := jA hq1
 have Q2 := jA hq2
 have Q3 := jA hq3
 clear hq1 hq2 hq3 hres
 have X := HT.out
 have za0 := X.s0.cell 0
 have za1 := X.s0.cell 1
 have za2 := X.s0.cell 2
 have za3 := X.s0.cell 3
 have za4 := X.s0.cell 4
 have za5 := X.s0.cell 5
 have zb0 := X.s1.cell 0
 have zd0 := X.s2.cell 0
 have zb1 := X.s1.cell 1
 have zd1 := X.s2.cell 1
 have zb2 := X.s1.cell 2
 have zd2 := X.s2.cell 2
 simp only [ruleV, sideV, Jt, Ju, Jv] at za0 za1 za2 za3 za4 za5 zb0 zd0 zb1 zd1 zb2 zd2
 clear X
 unfold ruleV sideV at HT ⊢
 cases q1 <;> cases q2
 all_goals go_enter Try.func78, Try.ntmps78
 all_goals go_wp2_with (first | (go_at_call 85; (with_reducible refine (has_go n1 t1 b1 r.f1 R1 _ _ Q1.out HT.out.set1 O1.out).mono ?_); rintro e w' ⟨rfl, hb⟩; have X := HT.out.move hb; clear hb HT za0 za1 za2 za3 za4 za5 zb0 zd0 zb1 zd1 zb2 zd2; have za0 := X.s0.cell 0; have za1 := X.s0.cell 1; have za2 := X.s0.cell 2; have za3 := X.s0.cell 3; have za4 := X.s0.cell 4; have za5 := X.s0.cell 5; have zb0 := X.s1.cell 0; have zd0 := X.s2.cell 0; have zb1 := X.s1.cell 1; have zd1 := X.s2.cell 1; have zb2 := X.s1.cell 2; have zd2 := X.s2.cell 2; simp only [ruleV, sideV, Jt, Ju, Jv] at za0 za1 za2 za3 za4 za5 zb0 zd0 zb1 zd1 zb2 zd2; have HT := jA X; clear X) | (go_at_call 85; (with_reducible refine (has_go n2 t2 b2 r.f2 R2 _ _ Q2.out HT.out.set2 O2.out).mono ?_); rintro e w' ⟨rfl, hb⟩; have X := HT.out.move hb; clear hb HT za0 za1 za2 za3 za4 za5 zb0 zd0 zb1 zd1 zb2 zd2; have za0 := X.s0.cell 0; have za1 := X.s0.cell 1; have za2 := X.s0.cell 2; have za3 := X.s0.cell 3; have za4 := X.s0.cell 4; have za5 := X.s0.cell 5; have zb0 := X.s1.cell 0; have zd0 := X.s2.cell 0; have zb1 := X.s1.cell 1; have zd1 := X.s2.cell 1; have zb2 := X.s1.cell 2; have zd2 := X.s2.cell 2; simp only [ruleV, sideV, Jt, Ju, Jv] at za0 za1 za2 za3 za4 za5 zb0 zd0 zb1 zd1 zb2 zd2; have HT := jA X; clear X) | (go_at_call 86; (with_reducible refine (passes_go r A3 c3 t1 _ _ Q3.out HT.out.row HCC.out).mono ?_); rintro e w' ⟨rfl, hb⟩; have X := HT.out.move hb; clear hb HT za0 za1 za2 za3 za4 za5 zb0 zd0 zb1 zd1 zb2 zd2; have za0 := X.s0.cell 0; have za1 := X.s0.cell 1; have za2 := X.s0.cell 2; have za3 := X.s0.cell 3; have za4 := X.s0.cell 4; have za5 := X.s0.cell 5; have zb0 := X.s1.cell 0; have zd0 := X.s2.cell 0; have zb1 := X.s1.cell 1; have zd1 := X.s2.cell 1; have zb2 := X.s1.cell 2; have zd2 := X.s2.cell 2; simp only [ruleV, sideV, Jt, Ju, Jv] at za0 za1 za2 za3 za4 za5 zb0 zd0 zb1 zd1 zb2 zd2; have HT := jA X; clear X))
 all_goals go_ret
 all_goals exact ⟨rfl, HT.out.below⟩
end Go.Proofs.Ythaiodklfoegiaa.MSide
namespace Go.Proofs.Ythaiodklfoegiaa.PG
open YthaiodklfoegiaaF
attribute [local go_sem high] run_feq run_fne run_flt_lt run_flt_le run_flt_gt run_flt_ge
open Go.RowKit YthaiodklfoegiaaW.PrintWords YthaiodklfoegiaaW.PrintLast YthaiodklfoegiaaW.PrintMore
attribute [local go_sem] max2_int min2_int max_two min_two max_three min_three max_four min_four
def slices_Index_string_string.l0 : Nat → List ByteArray → ByteArray → Int → Int → Option (Int)
 | 0, _, _, _, _ => none
 | k + 1, x0, x1, x7, x8 => if x8 < x7 then (if 0 ≤ x8 then (if x8 < (x0.length : Int) then (if x1.toList = (rdOf ByteArray.empty x0 x8).toList then (some x8) else (slices_Index_string_string.l0 k x0 x1 x7 (wrap64 (x8 + 1)))) else (none)) else (none)) else (some (-1))
def slices_Index_string_string.f (k : Nat) (l0 : List ByteArray) (a1 : ByteArray) : Option (Int) := slices_Index_string_string.l0 k l0 a1 (l0.length : Int) 0
theorem slices_Index_string_string.calls (k : Nat) (A0 : Option Addr) (c0 : Nat) (l0 : List ByteArray) (a1 : ByteArray) (r : Int) (w : World) (hr0 : Kd.C Kd.string w A0 l0.length l0) (hc0 : l0.length ≤ c0) (h : slices_Index_string_string.f k l0 a1 = some r) :
  Calls Try.prog 31 #[.slice A0 l0.length c0, .string a1] w fun e w' => e = .returned (.int .i64 r) ∧ Drawn0 w w' := by
 have HR0 := jA hr0
 have HC0 := jA hc0
 clear hr0 hc0
 have H : (slices_Index_string_string.l0 k l0 a1 (l0.length : Int) 0) = some r := h
 clear h
 have H' := jA H
 clear H
 go_enter Try.func31, Try.ntmps31
 go_wp2
 go_loopg [8] k (fun kq v8 w' => ∃ (Za : Int), v8 = .int .i64 Za ∧ Aside0 (slices_Index_string_string.l0 kq l0 a1 (l0.length : Int) Za = some r) ∧ Aside0 (kq ≤ k) ∧ Drawn0 w w')
 case atStart => exact ⟨(0), (by first | rfl | (simp; done) | (simp [*]; done)), H', ⟨Nat.le_refl _⟩, by repeat (first | exact Drawn0.refl _ | apply Drawn0.step)⟩
 case round =>
  clear H'
  try clear p2
  obtain ⟨Za, rfl, HA, HK1, ⟨m1, rfl⟩⟩ := hrel
  cases gk with
  | zero => exact absurd HA.out (by simp [slices_Index_string_string.l0])
  | succ k1 =>
   have H := HA.out
   clear HA
   simp only [slices_Index_string_string.l0] at H
   by_cases c3 : Za < (l0.length : Int)
   ·rw [if_pos c3] at H
    have c3b0 : decide (Za < (l0.length : Int)) = true := decide_eq_true c3
    clear c3
    by_cases c4 : 0 ≤ Za
    ·rw [if_pos c4] at H
     have c4b0 : decide (0 ≤ Za) = true := decide_eq_true c4
     clear c4
     by_cases c5 : Za < (l0.length : Int)
     ·rw [if_pos c5] at H
      have c5b0 : decide (Za < (l0.length : Int)) = true := decide_eq_true c5
      clear c5
      by_cases c6 : a1.toList = (rdOf ByteArray.empty l0 Za).toList
      ·rw [if_pos c6] at H
       have c6b0 : (a1.toList == (rdOf ByteArray.empty l0 Za).toList) = true := beq_iff_eq.mpr c6
       have c6b1 : (a1.toList != (rdOf ByteArray.empty l0 Za).toList) = false := bne_eq_false_iff_eq.mpr c6
       clear c6
       obtain rfl := Option.some.inj H
       have Zb : 0 ≤ (Za : Int) := of_decide_eq_true (by first | (with_reducible assumption) | assumption)
       have Zc : Za < (l0.length : Int) := of_decide_eq_true (by first | (with_reducible assumption) | assumption)
       obtain ⟨Zf, Ze, Zd⟩ := Kd.at_string HR0.out Za Zb Zc
       cases Ze
       replace Zb := eq_true Zb
       replace Zc := eq_true Zc
       go_wp2
       go_ret
       exact ⟨by first | rfl | (simp; done) | (simp [*]; done), by repeat (first | exact Drawn0.refl _ | apply Drawn0.step)⟩
      ·rw [if_neg c6] at H
       have c6b0 : (a1.toList == (rdOf ByteArray.empty l0 Za).toList) = false := beq_eq_false_iff_ne.mpr c6
       have c6b1 : (a1.toList != (rdOf ByteArray.empty l0 Za).toList) = true := bne_iff_ne.mpr c6
       have H' := jA H
       clear H
       have Zb : 0 ≤ (Za : Int) := of_decide_eq_true (by first | (with_reducible assumption) | assumption)
       have Zc : Za < (l0.length : Int) := of_decide_eq_true (by first | (with_reducible assumption) | assumption)
       obtain ⟨Zf, Ze, Zd⟩ := Kd.at_string HR0.out Za Zb Zc
       cases Ze
       replace Zb := eq_true Zb
       replace Zc := eq_true Zc
       go_wp2
       go_roundg k1
       case measure => have := HK1.out; omega
       case rel => exact ⟨(wrap64 (Za + 1)), (by first | rfl | (simp; done) | (simp [*]; done)), H', ⟨by have := HK1.out; omega⟩, by repeat (first | exact Drawn0.refl _ | apply Drawn0.step)⟩
     ·rw [if_neg c5] at H
      exact absurd H (by simp)
    ·rw [if_neg c4] at H
     exact absurd H (by simp)
   ·rw [if_neg c3] at H
    have c3b0 : decide (Za < (l0.length : Int)) = false := decide_eq_false c3
    clear c3
    obtain rfl := Option.some.inj H
    go_wp2
    go_ret
    exact ⟨by first | rfl | (simp; done) | (simp [*]; done), by repeat (first | exact Drawn0.refl _ | apply Drawn0.step)⟩
end Go.Proofs.Ythaiodklfoegiaa.PG
namespace Go.Proofs.Ythaiodklfoegiaa.PG
open YthaiodklfoegiaaF
attribute [local go_sem high] run_feq run_fne run_flt_lt run_flt_le run_flt_gt run_flt_ge
open Go.RowKit YthaiodklfoegiaaW.PrintWords YthaiodklfoegiaaW.PrintLast YthaiodklfoegiaaW.PrintMore
attribute [local go_sem] max2_int min2_int max_two min_two max_three min_three max_four min_four
def slices_Contains_string_string.f (k : Nat) (l0 : List ByteArray) (a1 : ByteArray) : Option (Bool) := (slices_Index_string_string.f k l0 a1).bind fun Za => (some (decide (Za ≥ 0)))
theorem slices_Contains_string_string.calls (k : Nat) (A0 : Option Addr) (c0 : Nat) (l0 : List ByteArray) (a1 : ByteArray) (r : Bool) (w : World) (hr0 : Kd.C Kd.string w A0 l0.length l0) (hc0 : l0.length ≤ c0) (h : slices_Contains_string_string.f k l0 a1 = some r) :
  Calls Try.prog 62 #[.slice A0 l0.length c0, .string a1] w fun e w' => e = .returned (.bool r) ∧ Drawn0 w w' := by
 have HR0 := jA hr0
 have HC0 := jA hc0
 clear hr0 hc0
 have H : ((slices_Index_string_string.f k l0 a1).bind fun Za => (some (decide (Za ≥ 0)))) = some r := h
 clear h
 replace H := Option.bind_eq_some_iff.mp H
 obtain ⟨Za, A30, H⟩ := H
 replace H : (some (decide (Za ≥ 0))) = some r := H
 have A3 := jA A30
 clear A30
 obtain rfl := Option.some.inj H
 go_enter Try.func62, Try.ntmps62
 go_wp2_with (first | ((with_reducible refine gate_callee (f := 31) rfl ?_); refine goesL_ (some 7) rfl rfl Try.func31 (by kernel_rfl) rfl #[.slice A0 l0.length c0, .string a1] rfl (by (try simp only [List.map_toArray, List.map_cons, List.map_nil]); first | done | rfl | (simp only [List.length_drop, List.length_take]; rfl)) ?_; (with_reducible refine (slices_Index_string_string.calls k _ _ l0 a1 Za _ ?Zb ?Zc A3.out).mono ?_); (case Zb => repeat (first | exact HR0.out | (with_reducible refine Kd.C_alloc ?_ _) | (with_reducible refine Kd.C_drewN ?_ _) | (with_reducible refine Kd.C_drew ?_))); (case Zc => exact HC0.out); rintro e w' ⟨rfl, ⟨nd, rfl⟩⟩; refine ⟨_, rfl, ?_⟩))
 go_ret
 exact ⟨by first | rfl | (simp; done) | (simp [*]; done), by repeat (first | exact Drawn0.refl _ | apply Drawn0.step)⟩
end Go.Proofs.Ythaiodklfoegiaa.PG
namespace Go.Proofs.Ythaiodklfoegiaa.PG
open YthaiodklfoegiaaF
attribute [local go_sem high] run_feq run_fne run_flt_lt run_flt_le run_flt_gt run_flt_ge
open Go.RowKit YthaiodklfoegiaaW.PrintWords YthaiodklfoegiaaW.PrintLast YthaiodklfoegiaaW.PrintMore
attribute [local go_sem] max2_int min2_int max_two min_two max_three min_three max_four min_four
def graph_once.l0 : Nat → List ByteArray → List ByteArray → Int → Int → Option (Bool)
 | 0, _, _, _, _ => none
 | k + 1, x0, x5, x6, x7 => if x7 < x6 then (if 0 ≤ x7 then (if x7 < (x5.length : Int) then (if x7 ≤ (x0.length : Int) then ((slices_Contains_string_string.f k (x0.take (x7 : Int).toNat) (rdOf ByteArray.empty x5 x7)).bind fun Zi => (if Zi = true then (some false) else (graph_once.l0 k x0 x5 x6 (wrap64 (x7 + 1))))) else (none)) else (none)) else (none)) else (some true)
def graph_once.f (k : Nat) (l0 : List ByteArray) : Option (Bool) := graph_once.l0 k l0 l0 (l0.length : Int) 0
theorem graph_once.calls (k : Nat) (A0 : Option Addr) (c0 : Nat) (l0 : List ByteArray) (r : Bool) (w : World) (hr0 : Kd.C Kd.string w A0 l0.length l0) (hc0 : l0.length ≤ c0) (h : graph_once.f k l0 = some r) :
  Calls Try.prog 33 #[.slice A0 l0.length c0] w fun e w' => e = .returned (.bool r) ∧ Drawn0 w w' := by
 have HR0 := jA hr0
 have HC0 := jA hc0
 clear hr0 hc0
 have H : (graph_once.l0 k l0 l0 (l0.length : Int) 0) = some r := h
 clear h
 have H' := jA H
 clear H
 go_enter Try.func33, Try.ntmps33
 go_wp2
 go_loopg [7] k (fun kq v7 w' => ∃ (Za : Int), v7 = .int .i64 Za ∧ Aside0 (graph_once.l0 kq l0 l0 (l0.length : Int) Za = some r) ∧ Aside0 (kq ≤ k) ∧ Drawn0 w w')
 case atStart => exact ⟨(0), (by first | rfl | (simp; done) | (simp [*]; done)), H', ⟨Nat.le_refl _⟩, by repeat (first | exact Drawn0.refl _ | apply Drawn0.step)⟩
 case round =>
  clear H'
  obtain ⟨Za, rfl, HA, HK1, ⟨m1, rfl⟩⟩ := hrel
  cases gk with
  | zero => exact absurd HA.out (by simp [graph_once.l0])
  | succ k1 =>
   have H := HA.out
   clear HA
   simp only [graph_once.l0] at H
   by_cases c2 : Za < (l0.length : Int)
   ·rw [if_pos c2] at H
    have c2b0 : decide (Za < (l0.length : Int)) = true := decide_eq_true c2
    clear c2
    by_cases c3 : 0 ≤ Za
    ·rw [if_pos c3] at H
     have c3b0 : decide (0 ≤ Za) = true := decide_eq_true c3
     clear c3
     by_cases c4 : Za < (l0.length : Int)
     ·rw [if_pos c4] at H
      have c4b0 : decide (Za < (l0.length : Int)) = true := decide_eq_true c4
      clear c4
      have c5b0 := eq_true (of_decide_eq_true (by first | (with_reducible assumption) | assumption) : 0 ≤ Za)
      by_cases c6 : Za ≤ (l0.length : Int)
      ·rw [if_pos c6] at H
       have c6b0 := eq_true c6
       have c6b1 : decide (Za ≤ (l0.length : Int)) = true := decide_eq_true c6
       clear c6
       replace H := Option.bind_eq_some_iff.mp H
       obtain ⟨Zi, A70, H⟩ := H
       replace H : (if Zi = true then (some false) else (graph_once.l0 k1 l0 l0 (l0.length : Int) (wrap64 (Za + 1)))) = some r := H
       have A7 := jA A70
       clear A70
       by_cases c8 : Zi = true
       ·subst c8
        have H1 : (some false) = some r := by rw [if_pos rfl] at H; exact H
        clear H
        have H := H1
        clear H1
        obtain rfl := Option.some.inj H
        have Zc : 0 ≤ (Za : Int) := of_decide_eq_true (by first | (with_reducible assumption) | assumption)
        have Zd : Za < (l0.length : Int) := of_decide_eq_true (by first | (with_reducible assumption) | assumption)
        obtain ⟨Zb, Zm, Zj⟩ := Kd.at_string HR0.out Za Zc Zd
        cases Zm
        replace Zc := eq_true Zc
        replace Zd := eq_true Zd
        obtain ⟨i09, Zn, _, Zo, _⟩ := info_parts info9
        obtain ⟨Zs, hA9, hC9⟩ := print_take_of (P := Try.prog) Value.string (⟨#[]⟩ : ByteArray) 22 9 .i64 Try.underlying22 Zn Zo (some Zb) c0 l0 Za (of_decide_eq_true (by first | (with_reducible assumption) | assumption)) (of_decide_eq_true (by first | (with_reducible assumption) | assumption)) HC0.out
        have Ze := jA (Kd.C_of_reads (h1 := fun _ => rfl) (hA9 _ (Kd.reads_of_C HR0.out)))
        have Zf := jA hC9
        clear hA9 hC9 Zn Zo
        go_wp2_with (first | ((with_reducible refine gate_callee (f := 62) rfl ?_); refine goesL_ (some 16) rfl rfl Try.func62 (by kernel_rfl) rfl #[.slice (some Zb) (l0.take (Za : Int).toNat).length c0, .string (rdOf ByteArray.empty l0 Za)] rfl (by (try simp only [List.map_toArray, List.map_cons, List.map_nil]); first | done | (rw [show (l0.take (Za : Int).toNat).length = Za.toNat from (by rw [List.length_take]; have h_ : (Za : Int) ≤ (l0.length : Int) := of_decide_eq_true (by first | (with_reducible assumption) | assumption); omega)] <;> rfl) | rfl | (simp only [List.length_drop, List.length_take]; rfl)) ?_; (with_reducible refine (slices_Contains_string_string.calls k1 _ _ (l0.take (Za : Int).toNat) (rdOf ByteArray.empty l0 Za) true _ ?Zg ?Zh A7.out).mono ?_); (case Zg => repeat (first | exact Ze.out | (with_reducible refine Kd.C_alloc ?_ _) | (with_reducible refine Kd.C_drewN ?_ _) | (with_reducible refine Kd.C_drew ?_))); (case Zh => exact Zf.out); rintro e w' ⟨rfl, ⟨nd, rfl⟩⟩; refine ⟨_, rfl, ?_⟩))
        go_ret
        exact ⟨by first | rfl | (simp; done) | (simp [*]; done), by repeat (first | exact Drawn0.refl _ | apply Drawn0.step)⟩
       ·replace c8 := Bool.eq_false_iff.mpr c8
        subst c8
        have H1 : (graph_once.l0 k1 l0 l0 (l0.length : Int) (wrap64 (Za + 1))) = some r := by rw [if_neg (show ¬ (false = true) by decide)] at H; exact H
        clear H
        have H := H1
        clear H1
        have H' := jA H
        clear H
        have Zc : 0 ≤ (Za : Int) := of_decide_eq_true (by first | (with_reducible assumption) | assumption)
        have Zd : Za < (l0.length : Int) := of_decide_eq_true (by first | (with_reducible assumption) | assumption)
        obtain ⟨Zb, Zm, Zj⟩ := Kd.at_string HR0.out Za Zc Zd
        cases Zm
        replace Zc := eq_true Zc
        replace Zd := eq_true Zd
        obtain ⟨Zt, Zk, _, Zl, _⟩ := info_parts info9
        obtain ⟨Zr, Zp, Zq⟩ := print_take_of (P := Try.prog) Value.string (⟨#[]⟩ : ByteArray) 22 9 .i64 Try.underlying22 Zk Zl (some Zb) c0 l0 Za (of_decide_eq_true (by first | (with_reducible assumption) | assumption)) (of_decide_eq_true (by first | (with_reducible assumption) | assumption)) HC0.out
        have Ze := jA (Kd.C_of_reads (h1 := fun _ => rfl) (Zp _ (Kd.reads_of_C HR0.out)))
        have Zf := jA Zq
        clear Zp Zq Zk Zl
        go_wp2_with (first | ((with_reducible refine gate_callee (f := 62) rfl ?_); refine goesL_ (some 16) rfl rfl Try.func62 (by kernel_rfl) rfl #[.slice (some Zb) (l0.take (Za : Int).toNat).length c0, .string (rdOf ByteArray.empty l0 Za)] rfl (by (try simp only [List.map_toArray, List.map_cons, List.map_nil]); first | done | (rw [show (l0.take (Za : Int).toNat).length = Za.toNat from (by rw [List.length_take]; have h_ : (Za : Int) ≤ (l0.length : Int) := of_decide_eq_true (by first | (with_reducible assumption) | assumption); omega)] <;> rfl) | rfl | (simp only [List.length_drop, List.length_take]; rfl)) ?_; (with_reducible refine (slices_Contains_string_string.calls k1 _ _ (l0.take (Za : Int).toNat) (rdOf ByteArray.empty l0 Za) false _ ?Zg ?Zh A7.out).mono ?_); (case Zg => repeat (first | exact Ze.out | (with_reducible refine Kd.C_alloc ?_ _) | (with_reducible refine Kd.C_drewN ?_ _) | (with_reducible refine Kd.C_drew ?_))); (case Zh => exact Zf.out); rintro e w' ⟨rfl, ⟨nd, rfl⟩⟩; refine ⟨_, rfl, ?_⟩))
        go_roundg k1
        case measure => have := HK1.out; omega
        case rel => exact ⟨(wrap64 (Za + 1)), (by first | rfl | (simp; done) | (simp [*]; done)), H', ⟨by have := HK1.out; omega⟩, by repeat (first | exact Drawn0.refl _ | apply Drawn0.step)⟩
      ·rw [if_neg c6] at H
       exact absurd H (by simp)
     ·rw [if_neg c4] at H
      exact absurd H (by simp)
    ·rw [if_neg c3] at H
     exact absurd H (by simp)
   ·rw [if_neg c2] at H
    have c2b0 : decide (Za < (l0.length : Int)) = false := decide_eq_false c2
    clear c2
    obtain rfl := Option.some.inj H
    go_wp2
    go_ret
    exact ⟨by first | rfl | (simp; done) | (simp [*]; done), by repeat (first | exact Drawn0.refl _ | apply Drawn0.step)⟩
end Go.Proofs.Ythaiodklfoegiaa.PG
namespace Go.Proofs.Ythaiodklfoegiaa.PG
open YthaiodklfoegiaaF
attribute [local go_sem high] run_feq run_fne run_flt_lt run_flt_le run_flt_gt run_flt_ge
open Go.RowKit YthaiodklfoegiaaW.PrintWords YthaiodklfoegiaaW.PrintLast YthaiodklfoegiaaW.PrintMore
attribute [local go_sem] max2_int min2_int max_two min_two max_three min_three max_four min_four
def gatehouseref11_equal.l0 : Nat → List Int → List Int → Int → Option (Bool)
 | 0, _, _, _ => none
 | k + 1, x0, x1, x5 => if x5 < (x0.length : Int) then (if 0 ≤ x5 then (if x5 < (x1.length : Int) then (if (rd x0 x5) = (rd x1 x5) then (gatehouseref11_equal.l0 k x0 x1 (wrap64 (x5 + 1))) else (some false)) else (none)) else (none)) else (some true)
def gatehouseref11_equal.f (k : Nat) (l0 : List Int) (l1 : List Int) : Option (Bool) := if (l0.length : Int) = (l1.length : Int) then (gatehouseref11_equal.l0 k l0 l1 0) else (some false)
theorem gatehouseref11_equal.calls (k : Nat) (A0 : Option Addr) (c0 : Nat) (l0 : List Int) (A1 : Option Addr) (c1 : Nat) (l1 : List Int) (r : Bool) (w : World) (hr0 : Kd.C (Kd.int .u16) w A0 l0.length l0) (hc0 : l0.length ≤ c0) (hr1 : Kd.C (Kd.int .u16) w A1 l1.length l1) (hc1 : l1.length ≤ c1) (h : gatehouseref11_equal.f k l0 l1 = some r) :
  Calls Try.prog 39 #[.slice A0 l0.length c0, .slice A1 l1.length c1] w fun e w' => e = .returned (.bool r) ∧ Drawn0 w w' := by
 have HR0 := jA hr0
 have HC0 := jA hc0
 clear hr0 hc0
 have HR1 := jA hr1
 have HC1 := jA hc1
 clear hr1 hc1
 have H : (if (l0.length : Int) = (l1.length : Int) then (gatehouseref11_equal.l0 k l0 l1 0) else (some false)) = some r := h
 clear h
 by_cases c3 : (l0.length : Int) = (l1.length : Int)
 ·rw [if_pos c3] at H
  have c3b0 : ((l0.length : Int) == (l1.length : Int)) = true := beq_iff_eq.mpr c3
  have c3b1 : ((l0.length : Int) != (l1.length : Int)) = false := bne_eq_false_iff_eq.mpr c3
  have c3b2 : (l0.length == l1.length) = true := by first | simpa using c3 | (simp at c3 ⊢; omega)
  clear c3
  have H' := jA H
  clear H
  go_enter Try.func39, Try.ntmps39
  go_wp2
  repeat (go_quiet (fail); try go_wp2)
  go_loopg [5] k (fun kq v5 w' => ∃ (Za : Int), v5 = .int .i64 Za ∧ Aside0 (gatehouseref11_equal.l0 kq l0 l1 Za = some r) ∧ Aside0 (kq ≤ k) ∧ Drawn0 w w')
  case atStart => exact ⟨(0), (by first | rfl | (simp; done) | (simp [*]; done)), H', ⟨Nat.le_refl _⟩, by repeat (first | exact Drawn0.refl _ | apply Drawn0.step)⟩
  case round =>
   clear H'
   try clear c1
   try clear p2
   try clear c3
   try clear c3b0
   try clear c3b1
   try clear c3b2
   obtain ⟨Za, rfl, HA, HK1, ⟨m1, rfl⟩⟩ := hrel
   cases gk with
   | zero => exact absurd HA.out (by simp [gatehouseref11_equal.l0])
   | succ k1 =>
    have H := HA.out
    clear HA
    simp only [gatehouseref11_equal.l0] at H
    by_cases c4 : Za < (l0.length : Int)
    ·rw [if_pos c4] at H
     have c4b0 : decide (Za < (l0.length : Int)) = true := decide_eq_true c4
     clear c4
     by_cases c5 : 0 ≤ Za
     ·rw [if_pos c5] at H
      have c5b0 : decide (0 ≤ Za) = true := decide_eq_true c5
      clear c5
      by_cases c6 : Za < (l1.length : Int)
      ·rw [if_pos c6] at H
       have c6b0 : decide (Za < (l1.length : Int)) = true := decide_eq_true c6
       clear c6
       by_cases c7 : (rd l0 Za) = (rd l1 Za)
       ·rw [if_pos c7] at H
        have c7b0 : ((rd l0 Za) == (rd l1 Za)) = true := beq_iff_eq.mpr c7
        have c7b1 : ((rd l0 Za) != (rd l1 Za)) = false := bne_eq_false_iff_eq.mpr c7
        clear c7
        have H' := jA H
        clear H
        have Zb : 0 ≤ (Za : Int) := of_decide_eq_true (by first | (with_reducible assumption) | assumption)
        have Zc : Za < (l0.length : Int) := of_decide_eq_true (by first | (with_reducible assumption) | assumption)
        obtain ⟨Zj, Zh, Zf⟩ := Kd.at_int HR0.out Za Zb Zc
        cases Zh
        replace Zb := eq_true Zb
        replace Zc := eq_true Zc
        have Zd : 0 ≤ (Za : Int) := of_decide_eq_true (by first | (with_reducible assumption) | assumption)
        have Ze : Za < (l1.length : Int) := of_decide_eq_true (by first | (with_reducible assumption) | assumption)
        obtain ⟨Zk, Zi, Zg⟩ := Kd.at_int HR1.out Za Zd Ze
        cases Zi
        replace Zd := eq_true Zd
        replace Ze := eq_true Ze
        go_wp2
        repeat (go_quiet (fail); try go_wp2)
        go_roundg k1
        case measure => have := HK1.out; omega
        case rel => exact ⟨(wrap64 (Za + 1)), (by first | rfl | (simp; done) | (simp [*]; done)), H', ⟨by have := HK1.out; omega⟩, by repeat (first | exact Drawn0.refl _ | apply Drawn0.step)⟩
       ·rw [if_neg c7] at H
        have c7b0 : ((rd l0 Za) == (rd l1 Za)) = false := beq_eq_false_iff_ne.mpr c7
        have c7b1 : ((rd l0 Za) != (rd l1 Za)) = true := bne_iff_ne.mpr c7
        obtain rfl := Option.some.inj H
        have Zb : 0 ≤ (Za : Int) := of_decide_eq_true (by first | (with_reducible assumption) | assumption)
        have Zc : Za < (l0.length : Int) := of_decide_eq_true (by first | (with_reducible assumption) | assumption)
        obtain ⟨Zj, Zh, Zf⟩ := Kd.at_int HR0.out Za Zb Zc
        cases Zh
        replace Zb := eq_true Zb
        replace Zc := eq_true Zc
        have Zd : 0 ≤ (Za : Int) := of_decide_eq_true (by first | (with_reducible assumption) | assumption)
        have Ze : Za < (l1.length : Int) := of_decide_eq_true (by first | (with_reducible assumption) | assumption)
        obtain ⟨Zk, Zi, Zg⟩ := Kd.at_int HR1.out Za Zd Ze
        cases Zi
        replace Zd := eq_true Zd
        replace Ze := eq_true Ze
        go_wp2
        repeat (go_quiet (fail); try go_wp2)
        go_ret
        exact ⟨by first | rfl | (simp; done) | (simp [*]; done), by repeat (first | exact Drawn0.refl _ | apply Drawn0.step)⟩
      ·rw [if_neg c6] at H
       exact absurd H (by simp)
     ·rw [if_neg c5] at H
      exact absurd H (by simp)
    ·rw [if_neg c4] at H
     have c4b0 : decide (Za < (l0.length : Int)) = false := decide_eq_false c4
     clear c4
     obtain rfl := Option.some.inj H
     go_wp2
     repeat (go_quiet (fail); try go_wp2)
     go_ret
     exact ⟨by first | rfl | (simp; done) | (simp [*]; done), by repeat (first | exact Drawn0.refl _ | apply Drawn0.step)⟩
 ·rw [if_neg c3] at H
  have c3b0 : ((l0.length : Int) == (l1.length : Int)) = false := beq_eq_false_iff_ne.mpr c3
  have c3b1 : ((l0.length : Int) != (l1.length : Int)) = true := bne_iff_ne.mpr c3
  have c3b2 : (l0.length == l1.length) = false := by first | simpa using c3 | (simp at c3 ⊢; omega)
  obtain rfl := Option.some.inj H
  go_enter Try.func39, Try.ntmps39
  go_wp2
  repeat (go_quiet (fail); try go_wp2)
  go_ret
  exact ⟨by first | rfl | (simp; done) | (simp [*]; done), by repeat (first | exact Drawn0.refl _ | apply Drawn0.step)⟩
end Go.Proofs.Ythaiodklfoegiaa.PG
namespace Go.Proofs.Ythaiodklfoegiaa.PG
open YthaiodklfoegiaaF
attribute [local go_sem high] run_feq run_fne run_flt_lt run_flt_le run_flt_gt run_flt_ge
open Go.RowKit YthaiodklfoegiaaW.PrintWords YthaiodklfoegiaaW.PrintLast YthaiodklfoegiaaW.PrintMore
attribute [local go_sem] max2_int min2_int max_two min_two max_three min_three max_four min_four
def gatehouseref11_column.l0 : Nat → List (List Int) → Int → List Int → Int → Option (List Int)
 | 0, _, _, _, _ => none
 | k + 1, x0, x1, x5, x6 => if x6 < (x0.length : Int) then (if 0 ≤ x6 then (if 0 ≤ x1 then (if x1 < ((rd_L3 x0 x6).length : Int) then (if x5.length < 70368744177664 then (gatehouseref11_column.l0 k x0 x1 (x5 ++ [rd (rd_L3 x0 x6) x1]) (wrap64 (x6 + 1))) else (none)) else (none)) else (none)) else (none)) else (some x5)
def gatehouseref11_column.f (k : Nat) (l0 : List (List Int)) (a1 : Int) : Option (List Int) := gatehouseref11_column.l0 k l0 a1 ([] : List Int) 0
theorem gatehouseref11_column.calls (k : Nat) (A0 : Option Addr) (c0 : Nat) (l0 : List (List Int)) (a1 : Int) (r : List Int) (w : World) (hr0 : Kd.C (Kd.slice 31 (Kd.int .u16)) w A0 l0.length l0) (hc0 : l0.length ≤ c0) (h : gatehouseref11_column.f k l0 a1 = some r) :
  Calls Try.prog 40 #[.slice A0 l0.length c0, .int .i64 a1] w fun e w' => ∃ v0_ : Value, e = .returned (v0_) ∧ Kd.R (Kd.int .u16) 31 w' w.heap.size (fun _ => True) v0_ r ∧ Below w.heap.size w w' := by
 have HR0 := jA hr0
 have HC0 := jA hc0
 clear hr0 hc0
 have HB := jA (Below.refl w.heap.size w)
 have H : (gatehouseref11_column.l0 k l0 a1 ([] : List Int) 0) = some r := h
 clear h
 have H' := jA H
 clear H
 go_enter Try.func40, Try.ntmps40
 go_wp2
 go_loopg [5, 6] k (fun kq v5 v6 w' => ∃ (Zg : List Int) (Za : Int), v6 = .int .i64 Za ∧ Aside0 (gatehouseref11_column.l0 kq l0 a1 Zg Za = some r) ∧ Aside0 (kq ≤ k) ∧ Aside0 (Kd.R (Kd.int .u16) 31 w' w.heap.size (fun _ => True) v5 Zg) ∧ Aside0 (Below w.heap.size w w'))
 case atStart => exact ⟨(([] : List Int)), (0), (by first | rfl | (simp; done) | (simp [*]; done)), H', ⟨Nat.le_refl _⟩, ⟨by first | exact Kd.R_nil _ _ _ _ _ | exact Kd.N_nil _ _ _ _ _ | exact Kd.V_nil _ _ _ _ _ | exact Kd.Q_nil _ _ _ _ _ | exact Kd.S_nil _ _ _ _ _⟩, ⟨by repeat (first | (with_reducible first | exact HB.out | apply below_alloc | apply pw_below_drewN | apply below_drew1) | exact HB.out)⟩⟩
 case round =>
  clear H'
  try clear p2
  obtain ⟨Zg, Za, rfl, HA, HK1, Zi, HB⟩ := hrel
  cases gk with
  | zero => exact absurd HA.out (by simp [gatehouseref11_column.l0])
  | succ k1 =>
   have H := HA.out
   clear HA
   simp only [gatehouseref11_column.l0] at H
   by_cases c3 : Za < (l0.length : Int)
   ·rw [if_pos c3] at H
    have c3b0 : decide (Za < (l0.length : Int)) = true := decide_eq_true c3
    clear c3
    by_cases c4 : 0 ≤ Za
    ·rw [if_pos c4] at H
     have c4b0 : decide (0 ≤ Za) = true := decide_eq_true c4
     clear c4
     by_cases c5 : 0 ≤ a1
     ·rw [if_pos c5] at H
      have c5b0 : decide (0 ≤ a1) = true := decide_eq_true c5
      clear c5
      by_cases c6 : a1 < ((rd_L3 l0 Za).length : Int)
      ·rw [if_pos c6] at H
       have c6b0 : decide (a1 < ((rd_L3 l0 Za).length : Int)) = true := decide_eq_true c6
       clear c6
       by_cases c7 : Zg.length < 70368744177664
       ·rw [if_pos c7] at H
        have Zr := jA c7
        clear c7
        obtain ⟨Zn, Zd⟩ : ∃ y_ : List Int, y_ = (Zg ++ [rd (rd_L3 l0 Za) a1]) := ⟨_, rfl⟩
        replace H : (gatehouseref11_column.l0 k1 l0 a1 Zn (wrap64 (Za + 1))) = some r := by first | (rw [Zd]; with_reducible exact H) | (have H2_ := (Option.bind_some _ _).symm.trans H; rw [Zd]; with_reducible exact H2_) | (have H2_ := (Option.bind_some _ _).symm.trans H; with_reducible exact H2_) | with_reducible exact H | (rw [Zd]; exact H) | exact H
        have Zo := jA Zd
        clear Zd
        have H' := jA H
        clear H
        have Zj : 0 ≤ (Za : Int) := of_decide_eq_true (by first | (with_reducible assumption) | assumption)
        have Zk : Za < (l0.length : Int) := of_decide_eq_true (by first | (with_reducible assumption) | assumption)
        obtain ⟨Zw, Zs, Zt, Zu, Zb, Ze, Zf⟩ := at_L3 HR0.out Za Zj Zk
        cases Zu
        replace Zb := (HB.out.cell (World.block_lt_of_cell? w _ Zb)).trans Zb
        have Zh := jA Zf
        have Zq := jA Ze
        clear Zf Ze
        replace Zj := eq_true Zj
        replace Zk := eq_true Zk
        have Zl : 0 ≤ (a1 : Int) := of_decide_eq_true (by first | (with_reducible assumption) | assumption)
        have Zm : a1 < ((rd_L3 l0 Za).length : Int) := of_decide_eq_true (by first | (with_reducible assumption) | assumption)
        obtain ⟨Zx, Zv, Zc⟩ := Kd.at_int Zh.out a1 Zl Zm
        cases Zv
        replace Zc := (HB.out.cell (World.block_lt_of_cell? w _ Zc)).trans Zc
        replace Zl := eq_true Zl
        replace Zm := eq_true Zm
        go_wp2_with (first | ((with_reducible refine gate_builtin (b := .append) (xs := #[.tmp 13, .tmp 21]) rfl ?_); at_builtin; refine Kd.R_append (Kd.int .u16) (w0 := w) w.heap.size rfl (.tmp 13) (.tmp 21) 32 31 (.int .u16 0) 2 rfl Try.underlying32 info31 rfl (by decide) (by omega) u5 Zg (rd (rd_L3 l0 Za) a1) [.int .u16 (rd (rd_L3 l0 Za) a1)] (fun _ => True) (fun _ => False) rfl rfl ?aP (fun _ hk => hk.elim) ?aF ?aO ?aB ?aS ?aL ?_; (case aP => exact rfl); (case aB => exact (by repeat (first | (with_reducible first | exact HB.out | apply below_alloc | apply pw_below_drewN | apply below_drew1) | exact HB.out))); (case aF => exact (fun _ _ => trivial)); (case aO => exact (by (with_reducible repeat (first | apply Kd.R_alloc | apply Kd.R_drewN | apply Kd.R_drew)); exact Zi.out)); (case aS => exact (below_size (by repeat (first | (with_reducible first | exact HB.out | apply below_alloc | apply pw_below_drewN | apply below_drew1) | exact HB.out)))); (case aL => have := Zr.out; omega); intro Zy w8 ho hb hg hat; rw [← Zo.out] at ho; have n0_ := jA (hb); have n1_ := jA (ho); clear HB; clear Zi; have HB := n0_; have Zp := n1_; clear n0_ n1_; clear ho hb hg hat))
        go_roundg k1
        case measure => have := HK1.out; omega
        case rel => exact ⟨(Zn), (wrap64 (Za + 1)), (by first | rfl | (simp; done) | (simp [*]; done)), H', ⟨by have := HK1.out; omega⟩, ⟨by (with_reducible repeat (first | apply Kd.R_alloc | apply Kd.R_drewN | apply Kd.R_drew)); exact Zp.out⟩, ⟨by repeat (first | (with_reducible first | exact HB.out | apply below_alloc | apply pw_below_drewN | apply below_drew1) | exact HB.out)⟩⟩
       ·rw [if_neg c7] at H
        exact absurd H (by simp)
      ·rw [if_neg c6] at H
       exact absurd H (by simp)
     ·rw [if_neg c5] at H
      exact absurd H (by simp)
    ·rw [if_neg c4] at H
     exact absurd H (by simp)
   ·rw [if_neg c3] at H
    have c3b0 : decide (Za < (l0.length : Int)) = false := decide_eq_false c3
    clear c3
    obtain rfl := Option.some.inj H
    go_wp2
    go_ret
    exact ⟨_, by first | rfl | (simp [errW_none, errW_some] <;> rfl) | (simp [*, errW_none, errW_some] <;> rfl), by (with_reducible repeat (first | apply Kd.R_alloc | apply Kd.R_drewN | apply Kd.R_drew)); exact Zi.out, by repeat (first | (with_reducible first | exact HB.out | apply below_alloc | apply pw_below_drewN | apply below_drew1) | exact HB.out)⟩
end Go.Proofs.Ythaiodklfoegiaa.PG
/- The plain side of Valid: what the printed functions (once, counted, the document's Valid) come to, in plain words over lists. -/
namespace Go.Proofs.Ythaiodklfoegiaa.VPure
open Go.RowKit PG YthaiodklfoegiaaW.PrintWords YthaiodklfoegiaaW.PrintMore
theorem w64 {i : Int} (h0 : -9223372036854775808 ≤ i) (h1 : i ≤ 9223372036854775807) : wrap64 i = i := by unfold wrap64; omega
theorem w64n {n m : Nat} (h : n < m) (hm : m ≤ 9223372036854775807) : wrap64 ((n : Int) + 1) = ((n + 1 : Nat) : Int) := by unfold wrap64; omega
theorem rdOf_get {α : Type} (d : α) (l : List α) (n : Nat) (h : n < l.length) : rdOf d l (n : Int) = l[n] := by simp [rdOf, h]
theorem rd_get (l : List Int) (n : Nat) (h : n < l.length) : rd l (n : Int) = l[n] := by simp [rd, h]
theorem rd_L3_get (l : List (List Int)) (n : Nat) (h : n < l.length) : rd_L3 l (n : Int) = l[n] := by simp [rd_L3, h]
def nm (l : List ByteArray) : List (List UInt8) := l.map ByteArray.toList
def pos : List ByteArray → ByteArray → Nat → Int
 | [], _, _ => -1
 | x :: r, s, n => if x.toList = s.toList then n else pos r s (n + 1)
theorem pos_range : ∀ (l : List ByteArray) (s : ByteArray) (n : Nat), pos l s n = -1 ∨ ((n : Int) ≤ pos l s n ∧ pos l s n < n + l.length)
 | [], _, _ => .inl rfl
 | x :: r, s, n => by
  simp only [pos]
  split
  ·right; simp; omega
  ·rcases pos_range r s (n + 1) with h | h
   ·exact .inl h
   ·right; simp at h ⊢; omega
theorem pos_mem : ∀ (l : List ByteArray) (s : ByteArray) (n : Nat), 0 ≤ pos l s n ↔ s.toList ∈ nm l
 | [], s, n => by simp [pos, nm]
 | x :: r, s, n => by
  simp only [pos, nm, List.map_cons, List.mem_cons]
  split
  ·rename_i h; simp [h]
  ·rename_i h
   rw [pos_mem r s (n + 1)]
   simp [nm, eq_comm, h]
theorem index_ev (l : List ByteArray) (s : ByteArray) (hl : l.length ≤ 9223372036854775807) : ∀ (d n : Nat), n + d = l.length → Ev (fun k => slices_Index_string_string.l0 k l s l.length n) (pos (l.drop n) s n)
 | 0, n, h => by
  rw [List.drop_eq_nil_of_le (by omega)]
  refine Ev.step (f := fun _ => some (-1)) (fun k => ?_) (Ev.now _)
  simp only [slices_Index_string_string.l0]
  rw [if_neg (by omega)]
 | d + 1, n, h => by
  have hlt : n < l.length := by omega
  rw [List.drop_eq_getElem_cons hlt]
  simp only [pos]
  by_cases he : l[n].toList = s.toList
  ·rw [if_pos he]
   refine Ev.step (f := fun _ => some (n : Int)) (fun k => ?_) (Ev.now _)
   simp only [slices_Index_string_string.l0]
   rw [if_pos (by omega), if_pos (by omega), if_pos (by omega), rdOf_get _ _ _ hlt, if_pos he.symm]
  ·rw [if_neg he]
   refine Ev.step (fun k => ?_) (index_ev l s hl d (n + 1) (by omega))
   simp only [slices_Index_string_string.l0]
   rw [if_pos (by omega), if_pos (by omega), if_pos (by omega), rdOf_get _ _ _ hlt, if_neg (fun e => he e.symm), w64n hlt hl]
theorem index_f (l : List ByteArray) (s : ByteArray) (hl : l.length ≤ 9223372036854775807) : Ev (fun k => slices_Index_string_string.f k l s) (pos l s 0) := index_ev l s hl l.length 0 (by omega)
theorem contains_f (l : List ByteArray) (s : ByteArray) (hl : l.length ≤ 9223372036854775807) : Ev (fun k => slices_Contains_string_string.f k l s) (decide (s.toList ∈ nm l)) := by
 refine Ev.bind (f := fun _ t => some (decide (t ≥ 0))) (index_f l s hl) ?_
 have : decide (pos l s 0 ≥ 0) = decide (s.toList ∈ nm l) := decide_eq_decide.2 (pos_mem l s 0)
 rw [this]
 exact Ev.now _
def onceB (l : List ByteArray) : Bool := decide (nm l).Nodup
theorem once_ev (l : List ByteArray) (hl : l.length ≤ 9223372036854775807) : ∀ (d n : Nat), n + d = l.length → ((nm l).take n).Nodup → Ev (fun k => graph_once.l0 k l l l.length n) (onceB l)
 | 0, n, h, hn => by
  refine Ev.step (f := fun _ => some true) (fun k => ?_) ?_
  ·simp only [graph_once.l0]
   rw [if_neg (by omega)]
  ·have : onceB l = true := by
    rw [List.take_of_length_le (by simp [nm]; omega)] at hn
    simpa [onceB] using hn
   rw [this]; exact Ev.now _
 | d + 1, n, h, hn => by
  have hlt : n < l.length := by omega
  have hln : n < (nm l).length := by simpa [nm] using hlt
  have hgn : (nm l)[n] = l[n].toList := by simp [nm]
  have htk : nm (l.take n) = (nm l).take n := by simp [nm, List.map_take]
  refine Ev.step (f := fun k => (slices_Contains_string_string.f k (l.take n) l[n]).bind fun t => if t = true then some false else graph_once.l0 k l l l.length ((n + 1 : Nat) : Int)) (fun k => ?_) ?_
  ·simp only [graph_once.l0]
   rw [if_pos (by omega), if_pos (by omega), if_pos (by omega), if_pos (by omega), rdOf_get _ _ _ hlt, w64n hlt hl, Int.toNat_natCast]
  ·refine Ev.bind (f := fun k t => if t = true then some false else graph_once.l0 k l l l.length ((n + 1 : Nat) : Int)) (contains_f (l.take n) l[n] (by simp; omega)) ?_
   rw [htk]
   by_cases hm : l[n].toList ∈ (nm l).take n
   ·simp only [hm, decide_true, if_true]
    have : onceB l = false := by
     simp only [onceB, decide_eq_false_iff_not]
     intro hnd
     obtain ⟨i, hi, he⟩ := List.getElem_of_mem hm
     rw [List.getElem_take] at he
     simp at hi
     have := (List.getElem_inj hnd).1 (he.trans hgn.symm)
     omega
    rw [this]; exact Ev.now _
   ·simp only [hm, decide_false, Bool.false_eq_true, if_false]
    refine once_ev l hl d (n + 1) (by omega) ?_
    rw [List.take_succ_eq_append_getElem hln, List.nodup_append]
    refine ⟨hn, by simp, ?_⟩
    intro a ha b hb e
    simp at hb
    subst hb
    subst e
    rw [hgn] at ha
    exact hm ha
theorem once_f (l : List ByteArray) (hl : l.length ≤ 9223372036854775807) : Ev (fun k => graph_once.f k l) (onceB l) := once_ev l hl l.length 0 (by omega) (by simp)
def told (o : Option Int) : Int × Bool := (o.getD 0, o.isSome)
end Go.Proofs.Ythaiodklfoegiaa.VPure
/- A policy in a call's arguments; mean.subject, mean.object, mean.about. -/
namespace Go.Proofs.Ythaiodklfoegiaa.MPol
open Go.RowKit YthaiodklfoegiaaW.PrintWords YthaiodklfoegiaaW.PrintLast YthaiodklfoegiaaW.PrintMore BMap BRow MLines MPut MClose MConcat MStand MSide Go.Maps
open PG YthaiodklfoegiaaF
structure PolD where
 acts : List ByteArray
 subs : List S54
 roles : List ByteArray
 objs : List ByteArray
 grps : List ByteArray
 mem : List S108
 inh : List S108
 par : List S108
 wit : List S108
 rules : List S78
 exc : List S28
structure Pol where
 d : PolD
 A0 : Option Addr
 c0 : Nat
 A1 : Option Addr
 c1 : Nat
 A2 : Option Addr
 c2 : Nat
 A3 : Option Addr
 c3 : Nat
 A4 : Option Addr
 c4 : Nat
 A5 : Option Addr
 c5 : Nat
 A6 : Option Addr
 c6 : Nat
 A7 : Option Addr
 c7 : Nat
 A8 : Option Addr
 c8 : Nat
 A9 : Option Addr
 c9 : Nat
 A10 : Option Addr
 c10 : Nat
def Pol.cells (p : Pol) : Array Value := #[.slice p.A0 p.d.acts.length p.c0, .slice p.A1 p.d.subs.length p.c1, .slice p.A2 p.d.roles.length p.c2, .slice p.A3 p.d.objs.length p.c3, .slice p.A4 p.d.grps.length p.c4, .slice p.A5 p.d.mem.length p.c5, .slice p.A6 p.d.inh.length p.c6, .slice p.A7 p.d.par.length p.c7, .slice p.A8 p.d.wit.length p.c8, .slice p.A9 p.d.rules.length p.c9, .slice p.A10 p.d.exc.length p.c10]
structure Pol.In (p : Pol) (w : World) : Prop where
 h0 : Kd.C Kd.string w p.A0 p.d.acts.length p.d.acts
 h1 : Kd.C k54 w p.A1 p.d.subs.length p.d.subs
 h2 : Kd.C Kd.string w p.A2 p.d.roles.length p.d.roles
 h3 : Kd.C Kd.string w p.A3 p.d.objs.length p.d.objs
 h4 : Kd.C Kd.string w p.A4 p.d.grps.length p.d.grps
 h5 : Kd.C k108 w p.A5 p.d.mem.length p.d.mem
 h6 : Kd.C k108 w p.A6 p.d.inh.length p.d.inh
 h7 : Kd.C k108 w p.A7 p.d.par.length p.d.par
 h8 : Kd.C k108 w p.A8 p.d.wit.length p.d.wit
 h9 : Kd.C k78 w p.A9 p.d.rules.length p.d.rules
 h10 : Kd.C k28 w p.A10 p.d.exc.length p.d.exc
 l0 : p.d.acts.length ≤ p.c0
 l1 : p.d.subs.length ≤ p.c1
 l2 : p.d.roles.length ≤ p.c2
 l3 : p.d.objs.length ≤ p.c3
 l4 : p.d.grps.length ≤ p.c4
 l5 : p.d.mem.length ≤ p.c5
 l6 : p.d.inh.length ≤ p.c6
 l7 : p.d.par.length ≤ p.c7
 l8 : p.d.wit.length ≤ p.c8
 l9 : p.d.rules.length ≤ p.c9
 l10 : p.d.exc.length ≤ p.c10
theorem Pol.In.below {p : Pol} {w w1 : World} (h : p.In w) (hb : Below w.heap.size w w1) : p.In w1 :=
 ⟨Kd.C_below h.h0 hb, Kd.C_below h.h1 hb, Kd.C_below h.h2 hb, Kd.C_below h.h3 hb, Kd.C_below h.h4 hb, Kd.C_below h.h5 hb, Kd.C_below h.h6 hb, Kd.C_below h.h7 hb, Kd.C_below h.h8 hb, Kd.C_below h.h9 hb, Kd.C_below h.h10 hb, h.l0, h.l1, h.l2, h.l3, h.l4, h.l5, h.l6, h.l7, h.l8, h.l9, h.l10⟩
structure PolD.Ok (d : PolD) : Prop where
 subs : ∀ s ∈ d.subs, okS s.f0
 objs : ∀ s ∈ d.objs, okS s
 acts : ∀ s ∈ d.acts, okS s
 mem : ∀ q ∈ d.mem, okS q.f0 ∧ okS q.f1
 inh : ∀ q ∈ d.inh, okS q.f0 ∧ okS q.f1
 par : ∀ q ∈ d.par, okS q.f0 ∧ okS q.f1
 wit : ∀ q ∈ d.wit, okS q.f0 ∧ okS q.f1
 rules : ∀ r ∈ d.rules, okS r.f1 ∧ okS r.f2
 lmem : d.mem.length ≤ 4398046510976
 linh : d.inh.length ≤ 4398046510976
 lpar : d.par.length ≤ 4398046510976
 lwit : d.wit.length ≤ 4398046510976
 lrules : d.rules.length ≤ 1759218604390
def PolD.who (d : PolD) (s : ByteArray) : ByteArray → Prop := MClose.Reach (d.mem ++ d.inh) s
def PolD.what (d : PolD) (o : ByteArray) : ByteArray → Prop := MClose.Reach (d.par ++ d.wit) o
def PolD.trust (d : PolD) (s : ByteArray) : Option Nat := (d.subs.find? (fun x => decide (x.f0 = s))).map (·.f1)
def noneV : Array Value := #[.string ⟨#[]⟩, .float .f64 0, .map none]
section
variable {w w0 : World} {g g' t t' : Nat} {cs vs : Array Value}
theorem Stays.there (h : Stays w g cs t) : w.there g 0 cs.size := fun j hj => by
 rw [h.cell, Nat.zero_add]
 exact ⟨by simp [hj], MPut.frozen_of_row h _⟩
theorem setCells_var (h : Stays w g cs t) (hl : vs.size = cs.size) : Stays (w.setCells g 0 vs.toList) g vs t := by
 obtain ⟨cur, h3, h4, h5⟩ := setCells_row vs.toList 0 w _ h (by simp [hl])
 have hcur : cur = vs := by
  apply Array.ext'
  rw [h5]
  simp [hl]
 rw [hcur] at h3
 exact h3
theorem setCells_stays (h : Stays w g' cs t) (hne : g' ≠ g) (l : List Value) : Stays (w.setCells g 0 l) g' cs t := (setCells_far l 0 g' hne).trans h
theorem setCells_below {B : Nat} (h : Below B w0 w) (hg : B ≤ g) (l : List Value) : Below B w0 (w.setCells g 0 l) := by
 obtain ⟨s1, s2, s3, s4⟩ := setCells_same g l 0 w
 exact ⟨s1.trans h.os, s2.trans h.tape, s3.trans h.output, by rw [s4]; exact h.size, fun k hk => (setCells_far l 0 k (by omega)).trans (h.block k hk)⟩
theorem setCells_set {b : Nat} {R : ByteArray → Prop} (h : IsSet w b R) (hne : b ≠ g) (l : List Value) : IsSet (w.setCells g 0 l) b R := by
 obtain ⟨f, n, hM, hf⟩ := h
 exact ⟨f, n, hM.move (setCells_far l 0 b hne), hf⟩
theorem wpList_store_var {P : Program} {ops : Array Oper} {rest : List Oper} {op : Oper} {a : Act} {Q : Exit → Act → World → Prop} (hgd : op.guard = none) (ty : TypeId) (x y : Operand) (ho : op.op = .store ty x y) (g : Nat) (L : Array Value)
  (hx : a.eval x = .pointer (some ⟨g, 0, none⟩)) (hy : a.eval y = .agg L) (hS : Stays w g cs t) (hl : L.size = cs.size) (hi : (P.info? ty).map (·.size) = some L.size) (h1 : L.all (·.oneCell') = true)
  (h : wpList P ops Q rest (a.put op.dst undef) (w.setCells g 0 L.toList)) : wpList P ops Q (op :: rest) a w :=
 wpList_store_mid hgd ty x y ho g 0 L hx hy (by rw [hl]; exact Stays.there hS) hi h1 h
end
theorem mem_nm (l : List ByteArray) (s : ByteArray) : s.toList ∈ VPure.nm l ↔ s ∈ l := by
 unfold VPure.nm
 rw [List.mem_map]
 constructor
 ·rintro ⟨x, hx, e⟩
  rw [ByteArray.toList_eq, ByteArray.toList_eq] at e
  rw [← ByteArray.ext (Array.toList_inj.mp e)]
  exact hx
 ·intro h; exact ⟨s, h, rfl⟩
open Classical in
theorem contains_go (A : Option Addr) (c : Nat) (l : List ByteArray) (s : ByteArray) (w : World) (q : Bool) (hq : decide (s ∈ l) = q) (hC : Kd.C Kd.string w A l.length l) (hc : l.length ≤ c) :
  Calls Try.prog 62 #[.slice A l.length c, .string s] w fun e w' => e = .returned (.bool q) ∧ Below w.heap.size w w' := by
 obtain ⟨k, hk⟩ := (VPure.contains_f l s hC.2.1).rounds
 refine (slices_Contains_string_string.calls k A c l s _ w hC hc hk).mono ?_
 rintro e w' ⟨rfl, hd⟩
 refine ⟨?_, hd.below⟩
 rw [← hq]
 have := mem_nm l s
 congr 2
 rw [Bool.eq_iff_iff, decide_eq_true_iff, decide_eq_true_iff]
 exact this
structure Two (p : Pol) (w W : World) (v : Array Value) : Prop where
 below : Below w.heap.size w W
 s0 : Stays W w.heap.size p.cells 39
 s1 : Stays W (w.heap.size + 1) v 95
theorem Two.move {p : Pol} {w W W1 : World} {v : Array Value} (h : Two p w W v) (hb : Below W.heap.size W W1) : Two p w W1 v := ⟨below_then h.below h.below.size hb, h.s0.below hb, h.s1.below hb⟩
theorem Two.start (p : Pol) (w : World) : Two p w ((w.alloc (.cells p.cells 39)).alloc (.cells noneV 95)) noneV := by
 have hb1 : Below w.heap.size w (w.alloc (.cells p.cells 39)) := below_alloc (Below.refl _ _) _
 have e1 := heap_alloc_new (w.alloc (.cells p.cells 39)) (.cells noneV 95)
 rw [World.size_alloc] at e1
 exact ⟨below_alloc hb1 _, (Below.heap_alloc _ _ _ (by simp only [World.size_alloc]; omega)).trans (heap_alloc_new w _), e1⟩
def SideOf (W : World) (q : Bool) (v : Array Value) (name : ByteArray) (trust : Nat) (R : ByteArray → Prop) : Prop := (q = true → ∃ b, v = sideV name trust b ∧ IsSet W b R) ∧ (q = false → v = noneV)
theorem SideOf.below {W W1 : World} {q : Bool} {v : Array Value} {name : ByteArray} {trust : Nat} {R : ByteArray → Prop} (h : SideOf W q v name trust R) (hb : Below W.heap.size W W1) : SideOf W1 q v name trust R :=
 ⟨fun e => by obtain ⟨b, e1, e2⟩ := h.1 e; exact ⟨b, e1, e2.below hb⟩, h.2⟩
theorem SideOf.size {W : World} {q : Bool} {v : Array Value} {name : ByteArray} {trust : Nat} {R : ByteArray → Prop} (h : SideOf W q v name trust R) : v.size = 3 := by
 cases q with
 | true => obtain ⟨b, rfl, _⟩ := h.1 rfl; rfl
 | false => rw [h.2 rfl]; rfl
theorem SideOf.one {W : World} {q : Bool} {v : Array Value} {name : ByteArray} {trust : Nat} {R : ByteArray → Prop} (h : SideOf W q v name trust R) : v.all (·.oneCell') = true := by
 cases q with
 | true => obtain ⟨b, rfl, _⟩ := h.1 rfl; simp [sideV, Value.oneCell']
 | false => rw [h.2 rfl]; simp [noneV, Value.oneCell']
open Classical in
theorem object_calls (p : Pol) (o : ByteArray) (w : World) (hp : p.In w) (hd : p.d.Ok) (ho : okS o) (q : Bool) (hq : decide (o ∈ p.d.objs) = q) :
  Calls Try.prog 61 #[.agg p.cells, .string o] w fun e w' => ∃ v, e = .returned (.tuple #[.agg v, .bool q]) ∧ SideOf w' q v o 0 (p.d.what o) ∧ Below w.heap.size w w' := by
 have HP := jA hp
 have HD := jA hd
 have HO := jA ho
 clear hd hp ho
 have hT := Two.start p w
 have HQ := jA hq
 have e3 := hT.s0.cell 3
 have e7 := hT.s0.cell 7
 have e8 := hT.s0.cell 8
 simp only [Pol.cells, Jt, Ju, Jv, noneV] at e3 e7 e8
 have HT := jA hT
 clear hT hq
 have hz := z95
 unfold Pol.cells
 unfold Pol.cells noneV at HT
 cases q with
 | false =>
  go_enter Try.func61, Try.ntmps61
  go_wp2_with (first | (go_at_call 62; (with_reducible refine (contains_go p.A3 p.c3 p.d.objs o _ _ HQ.out (HP.out.below HT.out.below).h3 HP.out.l3).mono ?_); rintro e w' ⟨rfl, hb⟩; have HT2 := jA (HT.out.move hb); clear hb) | ((with_reducible refine gate_store (t := 95) (p := 4) (v := .tmp 11) rfl ?_); refine wpList_store_var rfl 95 (.tmp 4) (.tmp 11) rfl (w.heap.size + 1) noneV ?hx ?hy HT2.out.s1 rfl i95 (by simp [noneV, Value.oneCell']) ?_; (case hx => rfl); (case hy => rfl)))
  (try simp only [Exit.inBlock, Exit.then])
  refine bodyPost_ret (results_ct rfl _ _ (w.heap.size + 1) 95 noneV (0, 0) _ rfl (setCells_var HT2.out.s1 rfl) Try.underlying95 rfl i95) rfl ?_
  exact ⟨noneV, rfl, ⟨fun e => (by cases e), fun _ => rfl⟩, setCells_below HT2.out.below (by omega) _⟩
 | true =>
  go_enter Try.func61, Try.ntmps61
  go_wp2_with (first | (go_at_call 62; (with_reducible refine (contains_go p.A3 p.c3 p.d.objs o _ _ HQ.out (HP.out.below HT.out.below).h3 HP.out.l3).mono ?_); rintro e w' ⟨rfl, hb⟩; have X := HT.out.move hb; clear hb e7 e8; have e7 := X.s0.cell 7; have e8 := X.s0.cell 8; simp only [Pol.cells, Jt, Ju, Jv] at e7 e8; have HT2 := jA X; clear X) | (go_at_call 75; (with_reducible refine (stand_calls o p.A7 p.c7 p.d.par p.A8 p.c8 p.d.wit _ (HP.out.below HT2.out.below).h7 (HP.out.below HT2.out.below).h8 HO.out (fun q hq => (List.mem_append.1 hq).elim (HD.out.par q) (HD.out.wit q)) (by have := HD.out.lpar; have := HD.out.lwit; omega)).mono ?_); rintro e w3 ⟨b, rfl, hS, hge, hb3⟩; have HT3 := jA (HT2.out.move hb3); have HS := jA hS; have HNE := jA (show b ≠ w.heap.size + 1 by have := (Array.getElem?_eq_some_iff.1 HT2.out.s1).1; omega); clear hS hge hb3) | ((with_reducible refine gate_store (t := 95) (p := 4) (v := .tmp 17) rfl ?_); refine wpList_store_var rfl 95 (.tmp 4) (.tmp 17) rfl (w.heap.size + 1) (sideV o 0 b) ?hx ?hy HT3.out.s1 rfl i95 (by simp [sideV, Value.oneCell']) ?_; (case hx => rfl); (case hy => rfl)))
  (try simp only [Exit.inBlock, Exit.then])
  refine bodyPost_ret (results_ct rfl _ _ (w.heap.size + 1) 95 (sideV o 0 b) (0, 0) _ rfl (setCells_var HT3.out.s1 rfl) Try.underlying95 rfl i95) rfl ?_
  exact ⟨sideV o 0 b, rfl, ⟨fun _ => ⟨b, rfl, setCells_set HS.out HNE.out _⟩, fun e => (by cases e)⟩, setCells_below HT3.out.below (by omega) _⟩
end Go.Proofs.Ythaiodklfoegiaa.MPol
/- A policy as it is handed in, with how much it bears. -/
namespace Go.Proofs.Ythaiodklfoegiaa.OPolicy
open Go.ChangeShapes Go.WideShapes Go.ChangeAt Go.RowKit YthaiodklfoegiaaW.PrintWords Opens BGraph MPol MLines
open PG YthaiodklfoegiaaF
theorem bytes108 : Try.prog.bytesOf 108 = 32 := by kernel_rfl
theorem bytes78 : Try.prog.bytesOf 78 = 80 := by kernel_rfl
theorem len_all {α : Type} {m : α → Nat} (l : List α) (h : ∀ x, 1 ≤ m x) : l.length ≤ all m l := by
 unfold all
 induction l with
 | nil => simp
 | cons a r ih => have := h a; simp only [List.map_cons, List.sum_cons, List.length_cons] at *; omega
theorem mem_all {α : Type} {m : α → Nat} : ∀ {l : List α} {x : α}, x ∈ l → m x ≤ all m l
 | a :: r, x, h => by
  have h1 : all m (a :: r) = m a + all m r := by simp [all]; omega
  rcases List.mem_cons.1 h with rfl | h
  ·omega
  ·have := mem_all (m := m) h; omega
theorem oStr : Opens Try.prog 9 Kd.string (fun s => s.size ≤ 140737488351232) (fun s => s.size + 1) := opens_string Try.underlying9
theorem oFlt : Opens Try.prog 52 kflt (fun _ => True) (fun _ => 1) := (opens_float Try.underlying52).imp (fun _ _ => trivial) (fun _ => Nat.le_refl _)
theorem opened_policy {H : Type} {enc : TypeId × Value → H} {W : World} {v : Value} {d : DataW H} {ps : List MemPlace} (h : DataW.Trod enc Try.prog W 0 (fun _ => true) true 39 v d ps) (hs : (DataW.weights Try.prog 39 d).all (· ≤ reachBytes) = true) :
  ∃ p : Pol, v = .agg p.cells ∧ p.In W ∧ p.d.Ok ∧ p.d.acts.length + p.d.subs.length + p.d.roles.length + p.d.objs.length + p.d.grps.length + p.d.mem.length + p.d.inh.length + p.d.par.length + p.d.wit.length + p.d.rules.length + p.d.exc.length ≤ Rows.uptoBulk d ∧ (∀ r ∈ p.d.rules, r.f3.length ≤ Rows.uptoBulk d) := by
 have oStrs := (opens_slice (P := Try.prog) 9 (e := 9) Try.underlying22 (by kernel_rfl) oStr).imp (m' := List.length) (fun _ h => h) (fun l => len_all l (fun x => Nat.le_add_left 1 _))
 have oSub := (opens_iso (P := Try.prog) (T := 54) (fun x : S54 => (x.f0, x.f1)) (fun a => ⟨a.1, a.2⟩) (fun _ => rfl) (opens_struct (P := Try.prog) (T := 54) (d := Kd.pair Kd.string kflt) Try.underlying54 (by kernel_rfl) (fields_cons (o' := 1) _ (by kernel_rfl) (by rfl) oStr (fields_one _ (by kernel_rfl) oFlt)))).imp (m' := fun _ => 1) (fun _ h => h) (fun _ => Nat.le_add_left 1 _)
 have oPair := (opens_iso (P := Try.prog) (T := 108) (fun x : S108 => (x.f0, x.f1)) (fun a => ⟨a.1, a.2⟩) (fun _ => rfl) (opens_struct (P := Try.prog) (T := 108) (d := Kd.pair Kd.string Kd.string) Try.underlying108 (by kernel_rfl) (fields_cons (o' := 1) _ (by kernel_rfl) (by rfl) oStr (fields_one _ (by kernel_rfl) oStr)))).imp (m' := fun _ => 1) (fun _ h => h) (fun _ => Nat.le_add_left 1 _)
 have oTri := (opens_iso (P := Try.prog) (T := 28) (fun x : S28 => (x.f0, x.f1, x.f2)) (fun a => ⟨a.1, a.2.1, a.2.2⟩) (fun _ => rfl) (opens_struct (P := Try.prog) (T := 28) (d := Kd.pair Kd.string (Kd.pair Kd.string Kd.string)) Try.underlying28 (by kernel_rfl) (fields_cons (o' := 1) _ (by kernel_rfl) (by rfl) oStr (fields_cons (o' := 2) _ (by kernel_rfl) (by rfl) oStr (fields_one _ (by kernel_rfl) oStr))))).imp (m' := fun _ => 1) (fun _ h => h) (fun _ => Nat.le_add_left 1 _)
 have oRule := (opens_iso (P := Try.prog) (T := 78) (fun x : S78 => (x.f0, x.f1, x.f2, x.f3, x.f4, x.f5)) (fun a => ⟨a.1, a.2.1, a.2.2.1, a.2.2.2.1, a.2.2.2.2.1, a.2.2.2.2.2⟩) (fun _ => rfl)
  (opens_struct (P := Try.prog) (T := 78) (d := Kd.pair Kd.bool (Kd.pair Kd.string (Kd.pair Kd.string (Kd.pair (Kd.slice 9 Kd.string) (Kd.pair (Kd.int .i8) kflt))))) Try.underlying78 (by kernel_rfl)
   (fields_cons (o' := 1) _ (by kernel_rfl) (by rfl) (opens_bool Try.underlying4) (fields_cons (o' := 2) _ (by kernel_rfl) (by rfl) oStr (fields_cons (o' := 3) _ (by kernel_rfl) (by rfl) oStr (fields_cons (o' := 4) _ (by kernel_rfl) (by rfl) oStrs (fields_cons (o' := 5) _ (by kernel_rfl) (by rfl) (opens_int (k := .i8) (by kernel_rfl)) (fields_one _ (by kernel_rfl) oFlt)))))))).imp (m' := fun r : S78 => r.f3.length + 1) (fun _ h => h) (fun r => by dsimp only; omega)
 have oSubs := (opens_slice (P := Try.prog) 54 (e := 54) (d := k54) Try.underlying34 (by kernel_rfl) oSub).imp (m' := List.length) (fun _ h => h) (fun l => len_all l (fun x => Nat.le_refl 1))
 have oPairs := (opens_slice (P := Try.prog) 108 (e := 108) (d := k108) Try.underlying35 (by kernel_rfl) oPair).imp (m' := List.length) (fun _ h => h) (fun l => len_all l (fun x => Nat.le_refl 1))
 have oRules := opens_slice (P := Try.prog) 78 (e := 78) (d := k78) Try.underlying36 (by kernel_rfl) oRule
 have oTris := (opens_slice (P := Try.prog) 28 (e := 28) (d := k28) Try.underlying37 (by kernel_rfl) oTri).imp (m' := List.length) (fun _ h => h) (fun l => len_all l (fun x => Nat.le_refl 1))
 have oPol := opens_struct (P := Try.prog) (T := 39) Try.underlying39 (by kernel_rfl)
  (fields_cons (o' := 1) _ (by kernel_rfl) (by rfl) oStrs (fields_cons (o' := 2) _ (by kernel_rfl) (by rfl) oSubs (fields_cons (o' := 3) _ (by kernel_rfl) (by rfl) oStrs (fields_cons (o' := 4) _ (by kernel_rfl) (by rfl) oStrs (fields_cons (o' := 5) _ (by kernel_rfl) (by rfl) oStrs
   (fields_cons (o' := 6) _ (by kernel_rfl) (by rfl) oPairs (fields_cons (o' := 7) _ (by kernel_rfl) (by rfl) oPairs (fields_cons (o' := 8) _ (by kernel_rfl) (by rfl) oPairs (fields_cons (o' := 9) _ (by kernel_rfl) (by rfl) oPairs (fields_cons (o' := 10) _ (by kernel_rfl) (by rfl) oRules (fields_one _ (by kernel_rfl) oTris)))))))))))
 obtain ⟨fuel, hf⟩ := h
 obtain ⟨⟨la, ls, lr, lo, lg, lm, li, lp, lw, ru, ex⟩, hK, hg, hb⟩ := oPol.out enc W fuel _ _ hf hs
 obtain ⟨_, _, e0, ⟨A0, c0, rfl, h0⟩, _, _, rfl, ⟨A1, c1, rfl, h1⟩, _, _, rfl, ⟨A2, c2, rfl, h2⟩, _, _, rfl, ⟨A3, c3, rfl, h3⟩, _, _, rfl, ⟨A4, c4, rfl, h4⟩, _, _, rfl, ⟨A5, c5, rfl, h5⟩, _, _, rfl, ⟨A6, c6, rfl, h6⟩, _, _, rfl, ⟨A7, c7, rfl, h7⟩, _, _, rfl, ⟨A8, c8, rfl, h8⟩, _, _, rfl, ⟨A9, c9, rfl, h9⟩, ⟨A10, c10, rfl, h10⟩⟩ := hK
 have hv := agg_of_cells e0 (by simp)
 subst hv
 obtain ⟨g0, g1, g2, g3, g4, g5, g6, g7, g8, g9, g10⟩ := hg
 have b5 : lm.length * Try.prog.bytesOf 108 ≤ 140737488351232 := g5.2.1
 have b6 : li.length * Try.prog.bytesOf 108 ≤ 140737488351232 := g6.2.1
 have b7 : lp.length * Try.prog.bytesOf 108 ≤ 140737488351232 := g7.2.1
 have b8 : lw.length * Try.prog.bytesOf 108 ≤ 140737488351232 := g8.2.1
 have b9 : ru.length * Try.prog.bytesOf 78 ≤ 140737488351232 := g9.2.1
 rw [bytes108] at b5 b6 b7 b8
 rw [bytes78] at b9
 have hru : ru.length ≤ all (fun r : S78 => r.f3.length + 1) ru := len_all ru (fun x => Nat.le_add_left 1 _)
 refine ⟨⟨⟨la, ls, lr, lo, lg, lm, li, lp, lw, ru, ex⟩, A0, c0, A1, c1, A2, c2, A3, c3, A4, c4, A5, c5, A6, c6, A7, c7, A8, c8, A9, c9, A10, c10⟩, by simp [Pol.cells], ⟨h0.2, h1.2, h2.2, h3.2, h4.2, h5.2, h6.2, h7.2, h8.2, h9.2, h10.2, h0.1, h1.1, h2.1, h3.1, h4.1, h5.1, h6.1, h7.1, h8.1, h9.1, h10.1⟩, ?_, ?_, ?_⟩
 ·exact { subs := fun s hs => (g1.2.2 s hs).1, objs := fun s hs => g3.2.2 s hs, acts := fun s hs => g0.2.2 s hs, mem := fun q hq => g5.2.2 q hq, inh := fun q hq => g6.2.2 q hq, par := fun q hq => g7.2.2 q hq, wit := fun q hq => g8.2.2 q hq, rules := fun r hr => ⟨(g9.2.2 r hr).2.1, (g9.2.2 r hr).2.2.1⟩, lmem := by show lm.length ≤ _; omega, linh := by show li.length ≤ _; omega, lpar := by show lp.length ≤ _; omega, lwit := by show lw.length ≤ _; omega, lrules := by show ru.length ≤ _; omega }
 ·dsimp only at hb ⊢; omega
 ·intro r hr
  have h1 : r.f3.length + 1 ≤ all (fun r : S78 => r.f3.length + 1) ru := mem_all (m := fun r : S78 => r.f3.length + 1) hr
  dsimp only at hb ⊢; omega
end Go.Proofs.Ythaiodklfoegiaa.OPolicy
namespace Go.Proofs.Ythaiodklfoegiaa.PG
open YthaiodklfoegiaaF
attribute [local go_sem high] run_feq run_fne run_flt_lt run_flt_le run_flt_gt run_flt_ge
open Go.RowKit YthaiodklfoegiaaW.PrintWords YthaiodklfoegiaaW.PrintLast YthaiodklfoegiaaW.PrintMore
attribute [local go_sem] max2_int min2_int max_two min_two max_three min_three max_four min_four
def gatehouseref08_in.l0 : Nat → List ByteArray → ByteArray → Int → Option (Bool)
 | 0, _, _, _ => none
 | k + 1, x0, x1, x5 => if x5 < (x0.length : Int) then (if 0 ≤ x5 then (if (rdOf ByteArray.empty x0 x5).toList = x1.toList then (some true) else (gatehouseref08_in.l0 k x0 x1 (wrap64 (x5 + 1)))) else (none)) else (some false)
def gatehouseref08_in.f (k : Nat) (l0 : List ByteArray) (a1 : ByteArray) : Option (Bool) := gatehouseref08_in.l0 k l0 a1 0
theorem gatehouseref08_in.calls (k : Nat) (A0 : Option Addr) (c0 : Nat) (l0 : List ByteArray) (a1 : ByteArray) (r : Bool) (w : World) (hr0 : Kd.C Kd.string w A0 l0.length l0) (hc0 : l0.length ≤ c0) (h : gatehouseref08_in.f k l0 a1 = some r) :
  Calls Try.prog 79 #[.slice A0 l0.length c0, .string a1] w fun e w' => e = .returned (.bool r) ∧ Drawn0 w w' := by
 have HR0 := jA hr0
 have HC0 := jA hc0
 clear hr0 hc0
 have H : (gatehouseref08_in.l0 k l0 a1 0) = some r := h
 clear h
 have H' := jA H
 clear H
 go_enter Try.func79, Try.ntmps79
 go_wp2
 go_loopg [5] k (fun kq v5 w' => ∃ (Za : Int), v5 = .int .i64 Za ∧ Aside0 (gatehouseref08_in.l0 kq l0 a1 Za = some r) ∧ Aside0 (kq ≤ k) ∧ Drawn0 w w')
 case atStart => exact ⟨(0), (by first | rfl | (simp; done) | (simp [*]; done)), H', ⟨Nat.le_refl _⟩, by repeat (first | exact Drawn0.refl _ | apply Drawn0.step)⟩
 case round =>
  clear H'
  try clear p2
  obtain ⟨Za, rfl, HA, HK1, ⟨m1, rfl⟩⟩ := hrel
  cases gk with
  | zero => exact absurd HA.out (by simp [gatehouseref08_in.l0])
  | succ k1 =>
   have H := HA.out
   clear HA
   simp only [gatehouseref08_in.l0] at H
   by_cases c3 : Za < (l0.length : Int)
   ·rw [if_pos c3] at H
    have c3b0 : decide (Za < (l0.length : Int)) = true := decide_eq_true c3
    clear c3
    by_cases c4 : 0 ≤ Za
    ·rw [if_pos c4] at H
     have c4b0 : decide (0 ≤ Za) = true := decide_eq_true c4
     clear c4
     by_cases c5 : (rdOf ByteArray.empty l0 Za).toList = a1.toList
     ·rw [if_pos c5] at H
      have c5b0 : ((rdOf ByteArray.empty l0 Za).toList == a1.toList) = true := beq_iff_eq.mpr c5
      have c5b1 : ((rdOf ByteArray.empty l0 Za).toList != a1.toList) = false := bne_eq_false_iff_eq.mpr c5
      clear c5
      obtain rfl := Option.some.inj H
      have Zb : 0 ≤ (Za : Int) := of_decide_eq_true (by first | (with_reducible assumption) | assumption)
      have Zc : Za < (l0.length : Int) := of_decide_eq_true (by first | (with_reducible assumption) | assumption)
      obtain ⟨Zf, Ze, Zd⟩ := Kd.at_string HR0.out Za Zb Zc
      cases Ze
      replace Zb := eq_true Zb
      replace Zc := eq_true Zc
      go_wp2
      go_ret
      exact ⟨by first | rfl | (simp; done) | (simp [*]; done), by repeat (first | exact Drawn0.refl _ | apply Drawn0.step)⟩
     ·rw [if_neg c5] at H
      have c5b0 : ((rdOf ByteArray.empty l0 Za).toList == a1.toList) = false := beq_eq_false_iff_ne.mpr c5
      have c5b1 : ((rdOf ByteArray.empty l0 Za).toList != a1.toList) = true := bne_iff_ne.mpr c5
      have H' := jA H
      clear H
      have Zb : 0 ≤ (Za : Int) := of_decide_eq_true (by first | (with_reducible assumption) | assumption)
      have Zc : Za < (l0.length : Int) := of_decide_eq_true (by first | (with_reducible assumption) | assumption)
      obtain ⟨Zf, Ze, Zd⟩ := Kd.at_string HR0.out Za Zb Zc
      cases Ze
      replace Zb := eq_true Zb
      replace Zc := eq_true Zc
      go_wp2
      go_roundg k1
      case measure => have := HK1.out; omega
      case rel => exact ⟨(wrap64 (Za + 1)), (by first | rfl | (simp; done) | (simp [*]; done)), H', ⟨by have := HK1.out; omega⟩, by repeat (first | exact Drawn0.refl _ | apply Drawn0.step)⟩
    ·rw [if_neg c4] at H
     exact absurd H (by simp)
   ·rw [if_neg c3] at H
    have c3b0 : decide (Za < (l0.length : Int)) = false := decide_eq_false c3
    clear c3
    obtain rfl := Option.some.inj H
    go_wp2
    go_ret
    exact ⟨by first | rfl | (simp; done) | (simp [*]; done), by repeat (first | exact Drawn0.refl _ | apply Drawn0.step)⟩
end Go.Proofs.Ythaiodklfoegiaa.PG
namespace Go.Proofs.Ythaiodklfoegiaa.PG
open YthaiodklfoegiaaF
attribute [local go_sem high] run_feq run_fne run_flt_lt run_flt_le run_flt_gt run_flt_ge
open Go.RowKit YthaiodklfoegiaaW.PrintWords YthaiodklfoegiaaW.PrintLast YthaiodklfoegiaaW.PrintMore
attribute [local go_sem] max2_int min2_int max_two min_two max_three min_three max_four min_four
mutual
def gatehouseref08_Ups.l0 : Nat → List (S108) → List (S108) → List ByteArray → Option (List ByteArray)
 | 0, _, _, _ => none
 | k + 1, x0, x1, x7 => gatehouseref08_Ups.l1 k x0 x1 x7 (x7.length : Int) 0
def gatehouseref08_Ups.l1 : Nat → List (S108) → List (S108) → List ByteArray → Int → Int → Option (List ByteArray)
 | 0, _, _, _, _, _ => none
 | k + 1, x0, x1, x7, x8, x9 => if x9 < (wrap64 ((x0.length : Int) + (x1.length : Int))) then (if x9 < (x0.length : Int) then (if 0 ≤ x9 then (gatehouseref08_Ups.j2 k x0 x1 x7 x8 x9 ((rd_T108 x0 x9).f0) ((rd_T108 x0 x9).f1)) else (none)) else (if 0 ≤ (wrap64 (x9 - (x0.length : Int))) then (if (wrap64 (x9 - (x0.length : Int))) < (x1.length : Int) then (gatehouseref08_Ups.j2 k x0 x1 x7 x8 x9 ((rd_T108 x1 (wrap64 (x9 - (x0.length : Int)))).f0) ((rd_T108 x1 (wrap64 (x9 - (x0.length : Int)))).f1)) else (none)) else (none))) else (if (x7.length : Int) = x8 then (some x7) else (gatehouseref08_Ups.l0 k x0 x1 x7))
def gatehouseref08_Ups.j2 : Nat → List (S108) → List (S108) → List ByteArray → Int → Int → ByteArray → ByteArray → Option (List ByteArray)
 | 0, _, _, _, _, _, _, _ => none
 | k + 1, x0, x1, x7, x8, x9, Zw, Zt => (gatehouseref08_in.f k x7 Zw).bind fun Zu => ((gatehouseref08_in.f k x7 Zt).bind fun Zq => (if Zu = true then (if Zq = true then (gatehouseref08_Ups.l1 k x0 x1 x7 x8 (wrap64 (x9 + 1))) else (if x7.length < 8796093022208 then (gatehouseref08_Ups.l1 k x0 x1 (x7 ++ [Zt]) x8 (wrap64 (x9 + 1))) else (none))) else (gatehouseref08_Ups.l1 k x0 x1 x7 x8 (wrap64 (x9 + 1)))))
end
def gatehouseref08_Ups.f (k : Nat) (l0 : List (S108)) (l1 : List (S108)) (a2 : ByteArray) : Option (List ByteArray) := gatehouseref08_Ups.l0 k l0 l1 (([a2] : List ByteArray))
theorem gatehouseref08_Ups.calls (k : Nat) (A0 : Option Addr) (c0 : Nat) (l0 : List (S108)) (A1 : Option Addr) (c1 : Nat) (l1 : List (S108)) (a2 : ByteArray) (r : List ByteArray) (w : World) (hr0 : Kd.C k108 w A0 l0.length l0) (hc0 : l0.length ≤ c0) (hr1 : Kd.C k108 w A1 l1.length l1) (hc1 : l1.length ≤ c1) (h : gatehouseref08_Ups.f k l0 l1 a2 = some r) :
  Calls Try.prog 66 #[.slice A0 l0.length c0, .slice A1 l1.length c1, .string a2] w fun e w' => ∃ v0_ : Value, e = .returned (v0_) ∧ Kd.R Kd.string 9 w' w.heap.size (fun _ => True) v0_ r ∧ Below w.heap.size w w' := by
 have Yh := Try.underlying108
 have HR0 := jA hr0
 have HC0 := jA hc0
 clear hr0 hc0
 have HR1 := jA hr1
 have HC1 := jA hc1
 clear hr1 hc1
 have HB := jA (Below.refl w.heap.size w)
 have H : (gatehouseref08_Ups.l0 k l0 l1 (([a2] : List ByteArray))) = some r := h
 clear h
 obtain ⟨ZM, Zr⟩ : ∃ y_ : List ByteArray, y_ = (([a2] : List ByteArray)) := ⟨_, rfl⟩
 replace H : (gatehouseref08_Ups.l0 k l0 l1 ZM) = some r := by first | (rw [Zr]; with_reducible exact H) | (have H2_ := (Option.bind_some _ _).symm.trans H; rw [Zr]; with_reducible exact H2_) | (have H2_ := (Option.bind_some _ _).symm.trans H; with_reducible exact H2_) | with_reducible exact H | (rw [Zr]; exact H) | exact H
 have ZJ := jA Zr
 clear Zr
 have H' := jA H
 clear H
 go_enter Try.func66, Try.ntmps66
 go_wp2_with (first | ((with_reducible refine gate_dst (N := 14) rfl ?_); refine Kd.R_lit Kd.string _ 9 ?hg (N := 14) ?hd (xs := ([a2] : List ByteArray)) (inner := [.string a2]) (ok := fun _ => True) (okp := fun _ => True) ?hr ?hp (fun _ hk => hk) trivial (Below.refl _ _) (Nat.le_refl _) (by simp) ?_; (case hd => rfl); (case hg => rfl); (case hr => first | (go_simp; done) | (go_simp; rfl)); (case hp => exact (Reps.one (show Kd.M Kd.string _ _ _ a2 [.string a2] from rfl) (Reps.none _ _))); intro Yl w4 ho5 hb hg_ hnew_; clear hg_ hnew_; (first | rw [← ZJ.out] at ho5 | (simp only [Int.reduceToNat] at ho5; rw [← ZJ.out] at ho5)); have n0_ := jA (Kd.R_lower ho5 (below_size (by repeat (first | (with_reducible first | exact HB.out | apply below_alloc | apply pw_below_drewN | apply below_drew1) | exact HB.out)))); have n1_ := jA (below_step (by repeat (first | (with_reducible first | exact HB.out | apply below_alloc | apply pw_below_drewN | apply below_drew1) | exact HB.out)) hb); clear HB; have ZN := n0_; have HB := n1_; clear n0_ n1_; clear hb ho5))
 go_loopg [7] k (fun kq v7 w' => ∃ (Zh : List ByteArray), Aside0 (gatehouseref08_Ups.l0 kq l0 l1 Zh = some r) ∧ Aside0 (kq ≤ k) ∧ Aside0 (Kd.R Kd.string 9 w' w.heap.size (fun _ => True) v7 Zh) ∧ Aside0 (Below w.heap.size w w'))
 case atStart => exact ⟨(ZM), H', ⟨Nat.le_refl _⟩, ⟨by (with_reducible repeat (first | apply Kd.R_alloc | apply Kd.R_drewN | apply Kd.R_drew)); exact ZN.out⟩, ⟨by repeat (first | (with_reducible first | exact HB.out | apply below_alloc | apply pw_below_drewN | apply below_drew1) | exact HB.out)⟩⟩
 case round =>
  clear H'
  try clear c1
  try clear p2
  obtain ⟨Zh, HA, HK1, Zf, HB⟩ := hrel
  cases gk with
  | zero => exact absurd HA.out (by simp [gatehouseref08_Ups.l0])
  | succ k1 =>
   have H := HA.out
   clear HA
   simp only [gatehouseref08_Ups.l0] at H
   have H' := jA H
   clear H
   obtain ⟨Ao6, co6, eo6⟩ := Kd.R_slice Zf.out
   subst eo6
   go_wp2
   go_loopg [7, 9] k1 (fun kq v7 v9 w' => ∃ (Zb : List ByteArray) (Ze : Int), v9 = .int .i64 Ze ∧ Aside0 (gatehouseref08_Ups.l1 kq l0 l1 Zb (Zh.length : Int) Ze = some r) ∧ Aside0 (kq ≤ k1) ∧ Aside0 (Kd.R Kd.string 9 w' w.heap.size (fun _ => True) v7 Zb) ∧ Aside0 (Below w.heap.size w w'))
   case atStart => exact ⟨(Zh), (0), (by first | rfl | (simp; done) | (simp [*]; done)), H', ⟨Nat.le_refl _⟩, ⟨by (with_reducible repeat (first | apply Kd.R_alloc | apply Kd.R_drewN | apply Kd.R_drew)); exact Zf.out⟩, ⟨by repeat (first | (with_reducible first | exact HB.out | apply below_alloc | apply pw_below_drewN | apply below_drew1) | exact HB.out)⟩⟩
   case round =>
    clear H'
    try clear c1
    try clear p2
    try clear c6
    try clear p2
    obtain ⟨Zb, Ze, rfl, HA, HK2, Zf, HB⟩ := hrel
    cases gk with
    | zero => exact absurd HA.out (by simp [gatehouseref08_Ups.l1])
    | succ k2 =>
     have H := HA.out
     clear HA
     simp only [gatehouseref08_Ups.l1] at H
     by_cases c7 : Ze < (wrap64 ((l0.length : Int) + (l1.length : Int)))
     ·rw [if_pos c7] at H
      have c7b0 : decide (Ze < (wrap64 ((l0.length : Int) + (l1.length : Int)))) = true := decide_eq_true c7
      clear c7
      have HC8 := jA H
      clear H
      go_upto_if 29 with (first | ((with_reducible refine gate_dst (N := 10) rfl ?_); refine box_event ?hg (N := 10) ?hd (cs := #[.string (⟨#[]⟩ : ByteArray), .string (⟨#[]⟩ : ByteArray)]) (t := 108) ?hr ?_; (case hd => rfl); (case hg => rfl); (case hr => first | (go_simp; done) | (go_simp; rfl)); intro Zg hg w9 hbox hb; have n0_ := jA (Kd.R_below (by (with_reducible repeat (first | apply Kd.R_alloc | apply Kd.R_drewN | apply Kd.R_drew)); exact Zf.out) hb); have n1_ := jA (below_step (by repeat (first | (with_reducible first | exact HB.out | apply below_alloc | apply pw_below_drewN | apply below_drew1) | exact HB.out)) hb); have n2_ := jA (hbox); have n3_ := jA ((by rw [hg]; exact (below_size (by repeat (first | (with_reducible first | exact HB.out | apply below_alloc | apply pw_below_drewN | apply below_drew1) | exact HB.out))) : w.heap.size ≤ Zg)); have n4_ := jA ((by rw [hg]; exact (below_size (by repeat (first | (with_reducible first | exact HB.out | apply below_alloc | apply pw_below_drewN | apply below_drew1) | exact HB.out))) : w.heap.size ≤ Zg)); clear Zf; clear HB; have Zf := n0_; have HB := n1_; have Zd := n2_; have Yi := n3_; have Zp := n4_; clear n0_ n1_ n2_ n3_ n4_; clear hb hbox hg))
      (try simp only [Act.put, Jq, Jr, Js])
      go_cut [] (fun wc => ∃ (kq : Nat) (Zc : ByteArray) (Za : ByteArray), Aside0 (gatehouseref08_Ups.j2 kq l0 l1 Zb (Zh.length : Int) Ze Zc Za = some r) ∧ Aside0 (kq ≤ k2) ∧ Aside0 (Kd.R Kd.string 9 wc w.heap.size (fun _ => True) u7 Zb) ∧ Aside0 (wc.heap[Zg]? = some (.cells #[.string Zc, .string Za] 108 (0, 0))) ∧ Aside0 (Below w.heap.size w wc))
      case first =>
       have H := HC8.out
       clear HC8
       by_cases c10 : Ze < (l0.length : Int)
       ·rw [if_pos c10] at H
        have c10b0 : decide (Ze < (l0.length : Int)) = true := decide_eq_true c10
        clear c10
        (first | rw [c10b0] | (simp only [i64_w, i32_w]; rw [c10b0]) | skip)
        by_cases c11 : 0 ≤ Ze
        ·rw [if_pos c11] at H
         have c11b0 : decide (0 ≤ Ze) = true := decide_eq_true c11
         clear c11
         have H' := jA H
         clear H
         have Zx : 0 ≤ (Ze : Int) := of_decide_eq_true (by first | (with_reducible assumption) | assumption)
         have Zy : Ze < (l0.length : Int) := of_decide_eq_true (by first | (with_reducible assumption) | assumption)
         obtain ⟨Yj, Ya, Zl, Zm⟩ := at_T108 HR0.out Ze Zx Zy
         cases Ya
         replace Zl := (HB.out.cell (World.block_lt_of_cell? w _ Zl)).trans Zl
         replace Zm := (HB.out.cell (World.block_lt_of_cell? w _ Zm)).trans Zm
         replace Zx := eq_true Zx
         replace Zy := eq_true Zy
         have Zz : w9.cell? ⟨Zg, 0, none⟩ = some (.string (⟨#[]⟩ : ByteArray)) := (blk_cell Zd.out 0).trans rfl
         have ZA : w9.cell? ⟨Zg, 1, none⟩ = some (.string (⟨#[]⟩ : ByteArray)) := (blk_cell Zd.out 1).trans rfl
         have ZB := blk_frozen Zd.out 0
         have ZC := blk_frozen Zd.out 1
         go_wp2
         go_meet
         case rel => exact ⟨_, ((rd_T108 l0 Ze).f0), ((rd_T108 l0 Ze).f1), H', ⟨by have := HK1.out; have := HK2.out; first | omega | exact Nat.le_refl _⟩, ⟨by (with_reducible repeat (first | apply Kd.R_alloc | apply Kd.R_drewN | apply Kd.R_drew)); exact Kd.R_mono (Kd.R_far (p := ⟨Zg, 1, none⟩) (Kd.R_far (p := ⟨Zg, 0, none⟩) (Kd.R_types Zf.out Zd.out (by decide)) (fun _ hk => hk.2) (.string ((rd_T108 l0 Ze).f0))) (fun _ hk => hk.2) (.string ((rd_T108 l0 Ze).f1))) (fun _ hk => trivial)⟩, ⟨by (with_reducible repeat (first | refine blk_drewN ?_ _ | refine blk_drew ?_ | refine blk_alloc ?_ _)); refine blk_put (cs := #[.string ((rd_T108 l0 Ze).f0), .string (⟨#[]⟩ : ByteArray)]) ?_ 1 _ rfl; (with_reducible repeat (first | refine blk_drewN ?_ _ | refine blk_drew ?_ | refine blk_alloc ?_ _)); refine blk_put (cs := #[.string (⟨#[]⟩ : ByteArray), .string (⟨#[]⟩ : ByteArray)]) ?_ 0 _ rfl; (with_reducible repeat (first | refine blk_drewN ?_ _ | refine blk_drew ?_ | refine blk_alloc ?_ _)); exact Zd.out⟩, ⟨by repeat (first | (with_reducible first | exact HB.out | apply below_alloc | apply pw_below_drewN | apply below_drew1 | refine below_set ?_ Zp.out) | exact HB.out)⟩⟩
        ·rw [if_neg c11] at H
         exact absurd H (by simp)
       ·rw [if_neg c10] at H
        have c10b0 : decide (Ze < (l0.length : Int)) = false := decide_eq_false c10
        clear c10
        (first | rw [c10b0] | (simp only [i64_w, i32_w]; rw [c10b0]) | skip)
        obtain ⟨Zi, Zv⟩ : ∃ j_ : Int, (wrap64 (Ze - (l0.length : Int))) = j_ := ⟨_, rfl⟩
        replace H : (if 0 ≤ (Zi) then (if (Zi) < (l1.length : Int) then (gatehouseref08_Ups.j2 k2 l0 l1 Zb (Zh.length : Int) Ze ((rd_T108 l1 (Zi)).f0) ((rd_T108 l1 (Zi)).f1)) else (none)) else (none)) = some r := by first | (rw [Zv] at H; exact H) | (simp only [Zv] at H ⊢; exact H)
        have hji13w : (IntKind.i64.wrap (Ze - (l0.length : Int))) = Zi := (i64_w _).trans Zv
        by_cases c14 : 0 ≤ (Zi)
        ·rw [if_pos c14] at H
         have c14b0 : decide (0 ≤ (Zi)) = true := decide_eq_true c14
         clear c14
         by_cases c15 : (Zi) < (l1.length : Int)
         ·rw [if_pos c15] at H
          have c15b0 : decide ((Zi) < (l1.length : Int)) = true := decide_eq_true c15
          clear c15
          have H' := jA H
          clear H
          have ZD : 0 ≤ ((Zi) : Int) := of_decide_eq_true (by first | (with_reducible assumption) | assumption)
          have ZE : (Zi) < (l1.length : Int) := of_decide_eq_true (by first | (with_reducible assumption) | assumption)
          obtain ⟨Yk, Yb, Zn, Zo⟩ := at_T108 HR1.out (Zi) ZD ZE
          cases Yb
          replace Zn := (HB.out.cell (World.block_lt_of_cell? w _ Zn)).trans Zn
          replace Zo := (HB.out.cell (World.block_lt_of_cell? w _ Zo)).trans Zo
          replace ZD := eq_true ZD
          replace ZE := eq_true ZE
          have ZF : w9.cell? ⟨Zg, 0, none⟩ = some (.string (⟨#[]⟩ : ByteArray)) := (blk_cell Zd.out 0).trans rfl
          have ZG : w9.cell? ⟨Zg, 1, none⟩ = some (.string (⟨#[]⟩ : ByteArray)) := (blk_cell Zd.out 1).trans rfl
          have ZH := blk_frozen Zd.out 0
          have ZI := blk_frozen Zd.out 1
          go_wp2
          go_meet
          case rel => exact ⟨_, ((rd_T108 l1 (Zi)).f0), ((rd_T108 l1 (Zi)).f1), H', ⟨by have := HK1.out; have := HK2.out; first | omega | exact Nat.le_refl _⟩, ⟨by (with_reducible repeat (first | apply Kd.R_alloc | apply Kd.R_drewN | apply Kd.R_drew)); exact Kd.R_mono (Kd.R_far (p := ⟨Zg, 1, none⟩) (Kd.R_far (p := ⟨Zg, 0, none⟩) (Kd.R_types Zf.out Zd.out (by decide)) (fun _ hk => hk.2) (.string ((rd_T108 l1 (Zi)).f0))) (fun _ hk => hk.2) (.string ((rd_T108 l1 (Zi)).f1))) (fun _ hk => trivial)⟩, ⟨by (with_reducible repeat (first | refine blk_drewN ?_ _ | refine blk_drew ?_ | refine blk_alloc ?_ _)); refine blk_put (cs := #[.string ((rd_T108 l1 (Zi)).f0), .string (⟨#[]⟩ : ByteArray)]) ?_ 1 _ rfl; (with_reducible repeat (first | refine blk_drewN ?_ _ | refine blk_drew ?_ | refine blk_alloc ?_ _)); refine blk_put (cs := #[.string (⟨#[]⟩ : ByteArray), .string (⟨#[]⟩ : ByteArray)]) ?_ 0 _ rfl; (with_reducible repeat (first | refine blk_drewN ?_ _ | refine blk_drew ?_ | refine blk_alloc ?_ _)); exact Zd.out⟩, ⟨by repeat (first | (with_reducible first | exact HB.out | apply below_alloc | apply pw_below_drewN | apply below_drew1 | refine below_set ?_ Zp.out) | exact HB.out)⟩⟩
         ·rw [if_neg c15] at H
          exact absurd H (by simp)
        ·rw [if_neg c14] at H
         exact absurd H (by simp)
      case rest =>
       clear HC8
       try clear c1
       try clear p1
       try clear q1
       try clear hx1
       try clear p2
       try clear c6
       try clear p6
       try clear c7
       try clear c7b0
       try clear c10
       try clear c10b0
       try clear c11
       try clear c11b0
       try clear c14
       try clear c14b0
       try clear c15
       try clear c15b0
       try clear Zz
       try clear ZA
       try clear ZF
       try clear ZG
       try clear ZB
       try clear ZC
       try clear ZH
       try clear ZI
       try clear Zl
       try clear Zm
       try clear Zn
       try clear Zo
       try clear Zx
       try clear ZD
       try clear p2
       try clear Zy
       try clear ZE
       obtain ⟨kq, Zc, Za, HA, HJ7, Zf, Zd, HB⟩ := hcut
       cases kq with
       | zero => exact absurd HA.out (by simp [gatehouseref08_Ups.j2])
       | succ kj7 =>
        have H := HA.out
        clear HA
        simp only [gatehouseref08_Ups.j2] at H
        replace H := Option.bind_eq_some_iff.mp H
        obtain ⟨Zu, ZO, H⟩ := H
        replace H : ((gatehouseref08_in.f kj7 Zb Za).bind fun Zq => (if Zu = true then (if Zq = true then (gatehouseref08_Ups.l1 kj7 l0 l1 Zb (Zh.length : Int) (wrap64 (Ze + 1))) else (if Zb.length < 8796093022208 then (gatehouseref08_Ups.l1 kj7 l0 l1 (Zb ++ [Za]) (Zh.length : Int) (wrap64 (Ze + 1))) else (none))) else (gatehouseref08_Ups.l1 kj7 l0 l1 Zb (Zh.length : Int) (wrap64 (Ze + 1))))) = some r := H
        have A17 := jA ZO
        clear ZO
        replace H := Option.bind_eq_some_iff.mp H
        obtain ⟨Zq, ZP, H⟩ := H
        replace H : (if Zu = true then (if Zq = true then (gatehouseref08_Ups.l1 kj7 l0 l1 Zb (Zh.length : Int) (wrap64 (Ze + 1))) else (if Zb.length < 8796093022208 then (gatehouseref08_Ups.l1 kj7 l0 l1 (Zb ++ [Za]) (Zh.length : Int) (wrap64 (Ze + 1))) else (none))) else (gatehouseref08_Ups.l1 kj7 l0 l1 Zb (Zh.length : Int) (wrap64 (Ze + 1)))) = some r := H
        have A18 := jA ZP
        clear ZP
        by_cases c19 : Zu = true
        ·subst c19
         have H1 : (if Zq = true then (gatehouseref08_Ups.l1 kj7 l0 l1 Zb (Zh.length : Int) (wrap64 (Ze + 1))) else (if Zb.length < 8796093022208 then (gatehouseref08_Ups.l1 kj7 l0 l1 (Zb ++ [Za]) (Zh.length : Int) (wrap64 (Ze + 1))) else (none))) = some r := by rw [if_pos rfl] at H; exact H
         clear H
         have H := H1
         clear H1
         by_cases c20 : Zq = true
         ·subst c20
          have H1 : (gatehouseref08_Ups.l1 kj7 l0 l1 Zb (Zh.length : Int) (wrap64 (Ze + 1))) = some r := by rw [if_pos rfl] at H; exact H
          clear H
          have H := H1
          clear H1
          have H' := jA H
          clear H
          have ZY : wc.cell? ⟨Zg, 0, none⟩ = some (.string Zc) := (blk_cell Zd.out 0).trans rfl
          have ZZ : wc.cell? ⟨Zg, 1, none⟩ = some (.string Za) := (blk_cell Zd.out 1).trans rfl
          have Z0 := blk_frozen Zd.out 0
          have Z1 := blk_frozen Zd.out 1
          obtain ⟨ZQ, ZR, Yc⟩ := Kd.R_slice Zf.out
          subst Yc
          go_wp2_with (first | ((with_reducible refine gate_callee (f := 79) rfl ?_); refine goesL_ (some 44) rfl rfl Try.func79 (by kernel_rfl) rfl #[.slice ZQ Zb.length ZR, .string Zc] rfl (by (try simp only [List.map_toArray, List.map_cons, List.map_nil]); first | done | rfl | (simp only [List.length_drop, List.length_take]; rfl)) ?_; (with_reducible refine (gatehouseref08_in.calls kj7 _ _ Zb Zc true _ ?Zj ?Zk A17.out).mono ?_); (case Zj => repeat (first | exact (Kd.R_reads' Zf.out).2.2 | (with_reducible refine Kd.C_alloc ?_ _) | (with_reducible refine Kd.C_drewN ?_ _) | (with_reducible refine Kd.C_drew ?_))); (case Zk => exact (Kd.R_reads' Zf.out).2.1); rintro e w' ⟨rfl, ⟨nd, rfl⟩⟩; refine ⟨_, rfl, ?_⟩) | ((with_reducible refine gate_callee (f := 79) rfl ?_); refine goesL_ (some 48) rfl rfl Try.func79 (by kernel_rfl) rfl #[.slice ZQ Zb.length ZR, .string Za] rfl (by (try simp only [List.map_toArray, List.map_cons, List.map_nil]); first | done | rfl | (simp only [List.length_drop, List.length_take]; rfl)) ?_; (with_reducible refine (gatehouseref08_in.calls kj7 _ _ Zb Za true _ ?Zj ?Zk A18.out).mono ?_); (case Zj => repeat (first | exact (Kd.R_reads' Zf.out).2.2 | (with_reducible refine Kd.C_alloc ?_ _) | (with_reducible refine Kd.C_drewN ?_ _) | (with_reducible refine Kd.C_drew ?_))); (case Zk => exact (Kd.R_reads' Zf.out).2.1); rintro e w' ⟨rfl, ⟨nd, rfl⟩⟩; refine ⟨_, rfl, ?_⟩))
          go_roundg kj7
          case measure => have := HK1.out; have := HK2.out; have := HJ7.out; omega
          case rel => exact ⟨(Zb), (wrap64 (Ze + 1)), (by first | rfl | (simp; done) | (simp [*]; done)), H', ⟨by have := HK1.out; have := HK2.out; have := HJ7.out; omega⟩, ⟨by (with_reducible repeat (first | apply Kd.R_alloc | apply Kd.R_drewN | apply Kd.R_drew)); exact Zf.out⟩, ⟨by repeat (first | (with_reducible first | exact HB.out | apply below_alloc | apply pw_below_drewN | apply below_drew1 | refine below_set ?_ Zp.out) | exact HB.out)⟩⟩
         ·replace c20 := Bool.eq_false_iff.mpr c20
          subst c20
          have H1 : (if Zb.length < 8796093022208 then (gatehouseref08_Ups.l1 kj7 l0 l1 (Zb ++ [Za]) (Zh.length : Int) (wrap64 (Ze + 1))) else (none)) = some r := by rw [if_neg (show ¬ (false = true) by decide)] at H; exact H
          clear H
          have H := H1
          clear H1
          by_cases c23 : Zb.length < 8796093022208
          ·rw [if_pos c23] at H
           have ZS := jA c23
           clear c23
           obtain ⟨ZT, Zs⟩ : ∃ y_ : List ByteArray, y_ = (Zb ++ [Za]) := ⟨_, rfl⟩
           replace H : (gatehouseref08_Ups.l1 kj7 l0 l1 ZT (Zh.length : Int) (wrap64 (Ze + 1))) = some r := by first | (rw [Zs]; with_reducible exact H) | (have H2_ := (Option.bind_some _ _).symm.trans H; rw [Zs]; with_reducible exact H2_) | (have H2_ := (Option.bind_some _ _).symm.trans H; with_reducible exact H2_) | with_reducible exact H | (rw [Zs]; exact H) | exact H
           have ZU := jA Zs
           clear Zs
           have H' := jA H
           clear H
           have Z2 : wc.cell? ⟨Zg, 0, none⟩ = some (.string Zc) := (blk_cell Zd.out 0).trans rfl
           have Z3 : wc.cell? ⟨Zg, 1, none⟩ = some (.string Za) := (blk_cell Zd.out 1).trans rfl
           have Z4 := blk_frozen Zd.out 0
           have Z5 := blk_frozen Zd.out 1
           obtain ⟨ZK, ZL, Yd⟩ := Kd.R_slice Zf.out
           subst Yd
           go_wp2_with (first | ((with_reducible refine gate_callee (f := 79) rfl ?_); refine goesL_ (some 44) rfl rfl Try.func79 (by kernel_rfl) rfl #[.slice ZK Zb.length ZL, .string Zc] rfl (by (try simp only [List.map_toArray, List.map_cons, List.map_nil]); first | done | rfl | (simp only [List.length_drop, List.length_take]; rfl)) ?_; (with_reducible refine (gatehouseref08_in.calls kj7 _ _ Zb Zc true _ ?Zj ?Zk A17.out).mono ?_); (case Zj => repeat (first | exact (Kd.R_reads' Zf.out).2.2 | (with_reducible refine Kd.C_alloc ?_ _) | (with_reducible refine Kd.C_drewN ?_ _) | (with_reducible refine Kd.C_drew ?_))); (case Zk => exact (Kd.R_reads' Zf.out).2.1); rintro e w' ⟨rfl, ⟨nd, rfl⟩⟩; refine ⟨_, rfl, ?_⟩) | ((with_reducible refine gate_callee (f := 79) rfl ?_); refine goesL_ (some 48) rfl rfl Try.func79 (by kernel_rfl) rfl #[.slice ZK Zb.length ZL, .string Za] rfl (by (try simp only [List.map_toArray, List.map_cons, List.map_nil]); first | done | rfl | (simp only [List.length_drop, List.length_take]; rfl)) ?_; (with_reducible refine (gatehouseref08_in.calls kj7 _ _ Zb Za false _ ?Zj ?Zk A18.out).mono ?_); (case Zj => repeat (first | exact (Kd.R_reads' Zf.out).2.2 | (with_reducible refine Kd.C_alloc ?_ _) | (with_reducible refine Kd.C_drewN ?_ _) | (with_reducible refine Kd.C_drew ?_))); (case Zk => exact (Kd.R_reads' Zf.out).2.1); rintro e w' ⟨rfl, ⟨nd, rfl⟩⟩; refine ⟨_, rfl, ?_⟩) | ((with_reducible refine gate_builtin (b := .append) (xs := #[.tmp 54, .tmp 57]) rfl ?_); at_builtin; refine Kd.R_append Kd.string (w0 := w) w.heap.size rfl (.tmp 54) (.tmp 57) 22 9 (.string ⟨#[]⟩) 16 rfl Try.underlying22 info9 rfl (by decide) (by omega) (.slice ZK Zb.length ZL) Zb Za [.string Za] (fun _ => True) (fun _ => False) rfl rfl ?aP (fun _ hk => hk.elim) ?aF ?aO ?aB ?aS ?aL ?_; (case aP => exact rfl); (case aB => exact (by repeat (first | (with_reducible first | exact HB.out | apply below_alloc | apply pw_below_drewN | apply below_drew1 | refine below_set ?_ Zp.out) | exact HB.out))); (case aF => exact (fun _ _ => trivial)); (case aO => exact (by (with_reducible repeat (first | apply Kd.R_alloc | apply Kd.R_drewN | apply Kd.R_drew)); exact Zf.out)); (case aS => exact (below_size (by repeat (first | (with_reducible first | exact HB.out | apply below_alloc | apply pw_below_drewN | apply below_drew1 | refine below_set ?_ Zp.out) | exact HB.out)))); (case aL => have := ZS.out; omega); intro Ym w26 ho hb hg hat; rw [← ZU.out] at ho; have n0_ := jA (blk_grown (g := Zg) (o := .cells #[.string Zc, .string Za] 108 (0, 0)) (by (with_reducible repeat (first | refine blk_drewN ?_ _ | refine blk_drew ?_ | refine blk_alloc ?_ _)); exact Zd.out) hg (Kd.R_ne Zf.out Zd.out (by decide))); have n1_ := jA (hb); have n2_ := jA (ho); clear Zd; clear HB; clear Zf; have Zd := n0_; have HB := n1_; have ZV := n2_; clear n0_ n1_ n2_; clear ho hb hg hat))
           go_roundg kj7
           case measure => have := HK1.out; have := HK2.out; have := HJ7.out; omega
           case rel => exact ⟨(ZT), (wrap64 (Ze + 1)), (by first | rfl | (simp; done) | (simp [*]; done)), H', ⟨by have := HK1.out; have := HK2.out; have := HJ7.out; omega⟩, ⟨by (with_reducible repeat (first | apply Kd.R_alloc | apply Kd.R_drewN | apply Kd.R_drew)); exact ZV.out⟩, ⟨by repeat (first | (with_reducible first | exact HB.out | apply below_alloc | apply pw_below_drewN | apply below_drew1 | refine below_set ?_ Zp.out) | exact HB.out)⟩⟩
          ·rw [if_neg c23] at H
           exact absurd H (by simp)
        ·replace c19 := Bool.eq_false_iff.mpr c19
         subst c19
         have H1 : (gatehouseref08_Ups.l1 kj7 l0 l1 Zb (Zh.length : Int) (wrap64 (Ze + 1))) = some r := by rw [if_neg (show ¬ (false = true) by decide)] at H; exact H
         clear H
         have H := H1
         clear H1
         have H' := jA H
         clear H
         have Z6 : wc.cell? ⟨Zg, 0, none⟩ = some (.string Zc) := (blk_cell Zd.out 0).trans rfl
         have Z7 : wc.cell? ⟨Zg, 1, none⟩ = some (.string Za) := (blk_cell Zd.out 1).trans rfl
         have Z8 := blk_frozen Zd.out 0
         have Z9 := blk_frozen Zd.out 1
         obtain ⟨ZW, ZX, Ye⟩ := Kd.R_slice Zf.out
         subst Ye
         go_wp2_with (first | ((with_reducible refine gate_callee (f := 79) rfl ?_); refine goesL_ (some 44) rfl rfl Try.func79 (by kernel_rfl) rfl #[.slice ZW Zb.length ZX, .string Zc] rfl (by (try simp only [List.map_toArray, List.map_cons, List.map_nil]); first | done | rfl | (simp only [List.length_drop, List.length_take]; rfl)) ?_; (with_reducible refine (gatehouseref08_in.calls kj7 _ _ Zb Zc false _ ?Zj ?Zk A17.out).mono ?_); (case Zj => repeat (first | exact (Kd.R_reads' Zf.out).2.2 | (with_reducible refine Kd.C_alloc ?_ _) | (with_reducible refine Kd.C_drewN ?_ _) | (with_reducible refine Kd.C_drew ?_))); (case Zk => exact (Kd.R_reads' Zf.out).2.1); rintro e w' ⟨rfl, ⟨nd, rfl⟩⟩; refine ⟨_, rfl, ?_⟩) | ((with_reducible refine gate_callee (f := 79) rfl ?_); refine goesL_ (some 48) rfl rfl Try.func79 (by kernel_rfl) rfl #[.slice ZW Zb.length ZX, .string Za] rfl (by (try simp only [List.map_toArray, List.map_cons, List.map_nil]); first | done | rfl | (simp only [List.length_drop, List.length_take]; rfl)) ?_; (with_reducible refine (gatehouseref08_in.calls kj7 _ _ Zb Za Zq _ ?Zj ?Zk A18.out).mono ?_); (case Zj => repeat (first | exact (Kd.R_reads' Zf.out).2.2 | (with_reducible refine Kd.C_alloc ?_ _) | (with_reducible refine Kd.C_drewN ?_ _) | (with_reducible refine Kd.C_drew ?_))); (case Zk => exact (Kd.R_reads' Zf.out).2.1); rintro e w' ⟨rfl, ⟨nd, rfl⟩⟩; refine ⟨_, rfl, ?_⟩))
         go_roundg kj7
         case measure => have := HK1.out; have := HK2.out; have := HJ7.out; omega
         case rel => exact ⟨(Zb), (wrap64 (Ze + 1)), (by first | rfl | (simp; done) | (simp [*]; done)), H', ⟨by have := HK1.out; have := HK2.out; have := HJ7.out; omega⟩, ⟨by (with_reducible repeat (first | apply Kd.R_alloc | apply Kd.R_drewN | apply Kd.R_drew)); exact Zf.out⟩, ⟨by repeat (first | (with_reducible first | exact HB.out | apply below_alloc | apply pw_below_drewN | apply below_drew1 | refine below_set ?_ Zp.out) | exact HB.out)⟩⟩
     ·rw [if_neg c7] at H
      have c7b0 : decide (Ze < (wrap64 ((l0.length : Int) + (l1.length : Int)))) = false := decide_eq_false c7
      clear c7
      by_cases c29 : (Zb.length : Int) = (Zh.length : Int)
      ·rw [if_pos c29] at H
       have c29b0 : ((Zb.length : Int) == (Zh.length : Int)) = true := beq_iff_eq.mpr c29
       have c29b1 : ((Zb.length : Int) != (Zh.length : Int)) = false := bne_eq_false_iff_eq.mpr c29
       have c29b2 : (Zb.length == Zh.length) = true := by first | simpa using c29 | (simp at c29 ⊢; omega)
       clear c29
       obtain rfl := Option.some.inj H
       obtain ⟨Yn, Yo, Yf⟩ := Kd.R_slice Zf.out
       subst Yf
       go_wp2
       go_ret
       exact ⟨_, by first | rfl | (simp [errW_none, errW_some] <;> rfl) | (simp [*, errW_none, errW_some] <;> rfl), by (with_reducible repeat (first | apply Kd.R_alloc | apply Kd.R_drewN | apply Kd.R_drew)); exact Zf.out, by repeat (first | (with_reducible first | exact HB.out | apply below_alloc | apply pw_below_drewN | apply below_drew1) | exact HB.out)⟩
      ·rw [if_neg c29] at H
       have c29b0 : ((Zb.length : Int) == (Zh.length : Int)) = false := beq_eq_false_iff_ne.mpr c29
       have c29b1 : ((Zb.length : Int) != (Zh.length : Int)) = true := bne_iff_ne.mpr c29
       have c29b2 : (Zb.length == Zh.length) = false := by first | simpa using c29 | (simp at c29 ⊢; omega)
       have H' := jA H
       clear H
       obtain ⟨Yp, Yq, Yg⟩ := Kd.R_slice Zf.out
       subst Yg
       go_wp2
       go_roundg k2
       case measure => have := HK1.out; have := HK2.out; omega
       case rel => exact ⟨(Zb), H', ⟨by have := HK1.out; have := HK2.out; omega⟩, ⟨by (with_reducible repeat (first | apply Kd.R_alloc | apply Kd.R_drewN | apply Kd.R_drew)); exact Zf.out⟩, ⟨by repeat (first | (with_reducible first | exact HB.out | apply below_alloc | apply pw_below_drewN | apply below_drew1) | exact HB.out)⟩⟩
end Go.Proofs.Ythaiodklfoegiaa.PG
namespace Go.Proofs.Ythaiodklfoegiaa.PG
open YthaiodklfoegiaaF
attribute [local go_sem high] run_feq run_fne run_flt_lt run_flt_le run_flt_gt run_flt_ge
open Go.RowKit YthaiodklfoegiaaW.PrintWords YthaiodklfoegiaaW.PrintLast YthaiodklfoegiaaW.PrintMore
attribute [local go_sem] max2_int min2_int max_two min_two max_three min_three max_four min_four
def gatehouseref08_Trust.l0 : Nat → ByteArray → Int → List ByteArray → List (S54) → List ByteArray → List ByteArray → List ByteArray → List (S108) → List (S108) → List (S108) → List (S108) → List (S78) → List (S28) → Option (Nat × Bool)
 | 0, _, _, _, _, _, _, _, _, _, _, _, _, _ => none
 | k + 1, x1, x6, ZV, Zq, ZW, ZX, ZY, ZZ, Z0, Z1, Z2, Z3, Z4 => if x6 < (Zq.length : Int) then (if 0 ≤ x6 then (if ((rd_T54 Zq x6).f0).toList = x1.toList then (some ((rd_T54 Zq x6).f1, true)) else (gatehouseref08_Trust.l0 k x1 (wrap64 (x6 + 1)) ZV Zq ZW ZX ZY ZZ Z0 Z1 Z2 Z3 Z4)) else (none)) else (some ((0 : Nat), false))
def gatehouseref08_Trust.f (k : Nat) (Zh : List ByteArray) (Zc : List (S54)) (Zi : List ByteArray) (Zj : List ByteArray) (Zk : List ByteArray) (Zl : List (S108)) (Zm : List (S108)) (Zn : List (S108)) (Zo : List (S108)) (Zp : List (S78)) (Ze : List (S28)) (a1 : ByteArray) : Option (Nat × Bool) := gatehouseref08_Trust.l0 k a1 0 Zh Zc Zi Zj Zk Zl Zm Zn Zo Zp Ze
theorem gatehouseref08_Trust.calls (k : Nat) (Zv : Option Addr) (Zw : Nat) (Zh : List ByteArray) (Zx : Option Addr) (Zy : Nat) (Zc : List (S54)) (Zz : Option Addr) (ZA : Nat) (Zi : List ByteArray) (ZB : Option Addr) (ZC : Nat) (Zj : List ByteArray) (ZD : Option Addr) (ZE : Nat) (Zk : List ByteArray) (ZF : Option Addr) (ZG : Nat) (Zl : List (S108)) (ZH : Option Addr) (ZI : Nat) (Zm : List (S108)) (ZJ : Option Addr) (ZK : Nat) (Zn : List (S108)) (ZL : Option Addr) (ZM : Nat) (Zo : List (S108)) (ZN : Option Addr) (ZO : Nat) (Zp : List (S78)) (Zr : Option Addr) (Zs : Nat) (Ze : List (S28)) (a1 : ByteArray) (r1 : Nat) (r2 : Bool) (w : World) (Z5 : Kd.C Kd.string w Zv Zh.length Zh) (Z6 : Zh.length ≤ Zw) (Z7 : Kd.C k54 w Zx Zc.length Zc) (Z8 : Zc.length ≤ Zy) (Z9 : Kd.C Kd.string w Zz Zi.length Zi) (Ya : Zi.length ≤ ZA) (Yb : Kd.C Kd.string w ZB Zj.length Zj) (Yc : Zj.length ≤ ZC) (Yd : Kd.C Kd.string w ZD Zk.length Zk) (Ye : Zk.length ≤ ZE) (Yf : Kd.C k108 w ZF Zl.length Zl) (Yg : Zl.length ≤ ZG) (Yh : Kd.C k108 w ZH Zm.length Zm) (Yi : Zm.length ≤ ZI) (Yj : Kd.C k108 w ZJ Zn.length Zn) (Yk : Zn.length ≤ ZK) (Yl : Kd.C k108 w ZL Zo.length Zo) (Ym : Zo.length ≤ ZM) (Yn : Kd.C k78 w ZN Zp.length Zp) (Yo : Zp.length ≤ ZO) (ZS : Kd.C k28 w Zr Ze.length Ze) (ZT : Ze.length ≤ Zs) (h : gatehouseref08_Trust.f k Zh Zc Zi Zj Zk Zl Zm Zn Zo Zp Ze a1 = some (r1, r2)) :
  Calls Try.prog 67 #[.agg #[.slice Zv Zh.length Zw, .slice Zx Zc.length Zy, .slice Zz Zi.length ZA, .slice ZB Zj.length ZC, .slice ZD Zk.length ZE, .slice ZF Zl.length ZG, .slice ZH Zm.length ZI, .slice ZJ Zn.length ZK, .slice ZL Zo.length ZM, .slice ZN Zp.length ZO, .slice Zr Ze.length Zs], .string a1] w fun e w' => e = .returned (.tuple #[.float .f64 r1, .bool r2]) ∧ Below w.heap.size w w' := by
 have XV := Try.underlying39
 have XB := jA Z5
 have XC := jA Z6
 clear Z5 Z6
 have ZU := jA Z7
 have XD := jA Z8
 clear Z7 Z8
 have XE := jA Z9
 have XF := jA Ya
 clear Z9 Ya
 have XG := jA Yb
 have XH := jA Yc
 clear Yb Yc
 have XI := jA Yd
 have XJ := jA Ye
 clear Yd Ye
 have XK := jA Yf
 have XL := jA Yg
 clear Yf Yg
 have XM := jA Yh
 have XN := jA Yi
 clear Yh Yi
 have XO := jA Yj
 have XP := jA Yk
 clear Yj Yk
 have XQ := jA Yl
 have XR := jA Ym
 clear Yl Ym
 have XS := jA Yn
 have XT := jA Yo
 clear Yn Yo
 have YA := jA ZS
 have YB := jA ZT
 clear ZS ZT
 have HB := jA (Below.refl w.heap.size w)
 have H : (gatehouseref08_Trust.l0 k a1 0 Zh Zc Zi Zj Zk Zl Zm Zn Zo Zp Ze) = some (r1, r2) := h
 clear h
 have H' := jA H
 clear H
 go_enter Try.func67, Try.ntmps67
 go_wp2_with (first | ((with_reducible refine gate_dst (N := 2) rfl ?_); refine box_event ?hg (N := 2) ?hd (cs := #[.slice Zv Zh.length Zw, .slice Zx Zc.length Zy, .slice Zz Zi.length ZA, .slice ZB Zj.length ZC, .slice ZD Zk.length ZE, .slice ZF Zl.length ZG, .slice ZH Zm.length ZI, .slice ZJ Zn.length ZK, .slice ZL Zo.length ZM, .slice ZN Zp.length ZO, .slice Zr Ze.length Zs]) (t := 39) ?hr ?_; (case hd => rfl); (case hg => rfl); (case hr => first | (go_simp; done) | (go_simp; rfl)); intro Zb hg w3 hbox hb; have n0_ := jA (below_step (by repeat (first | (with_reducible first | exact HB.out | apply below_alloc | apply pw_below_drewN | apply below_drew1) | exact HB.out)) hb); have n1_ := jA (hbox); have n2_ := jA ((by rw [hg]; exact (below_size (by repeat (first | (with_reducible first | exact HB.out | apply below_alloc | apply pw_below_drewN | apply below_drew1) | exact HB.out))) : w.heap.size ≤ Zb)); have n3_ := jA ((by rw [hg]; exact (below_size (by repeat (first | (with_reducible first | exact HB.out | apply below_alloc | apply pw_below_drewN | apply below_drew1) | exact HB.out))) : w.heap.size ≤ Zb)); clear HB; have HB := n0_; have Za := n1_; have XU := n2_; have ZR := n3_; clear n0_ n1_ n2_ n3_; clear hb hbox hg))
 go_loopg [6] k (fun kq v6 w' => ∃ (Zd : Int), v6 = .int .i64 Zd ∧ Aside0 (gatehouseref08_Trust.l0 kq a1 Zd Zh Zc Zi Zj Zk Zl Zm Zn Zo Zp Ze = some (r1, r2)) ∧ Aside0 (kq ≤ k) ∧ Aside0 (w'.heap[Zb]? = some (.cells #[(.slice Zv Zh.length Zw), (.slice Zx Zc.length Zy), (.slice Zz Zi.length ZA), (.slice ZB Zj.length ZC), (.slice ZD Zk.length ZE), (.slice ZF Zl.length ZG), (.slice ZH Zm.length ZI), (.slice ZJ Zn.length ZK), (.slice ZL Zo.length ZM), (.slice ZN Zp.length ZO), (.slice Zr Ze.length Zs)] 39 (0, 0))) ∧ Aside0 (Below w.heap.size w w'))
 case atStart => exact ⟨(0), (by first | rfl | (simp; done) | (simp [*]; done)), H', ⟨Nat.le_refl _⟩, ⟨by (with_reducible repeat (first | refine blk_drewN ?_ _ | refine blk_drew ?_ | refine blk_alloc ?_ _)); exact Za.out⟩, ⟨by repeat (first | (with_reducible first | exact HB.out | apply below_alloc | apply pw_below_drewN | apply below_drew1 | refine below_set ?_ ZR.out) | exact HB.out)⟩⟩
 case round =>
  clear H'
  try clear p2
  obtain ⟨Zd, rfl, HA, HK1, Za, HB⟩ := hrel
  cases gk with
  | zero => exact absurd HA.out (by simp [gatehouseref08_Trust.l0])
  | succ k1 =>
   have H := HA.out
   clear HA
   simp only [gatehouseref08_Trust.l0] at H
   by_cases c4 : Zd < (Zc.length : Int)
   ·rw [if_pos c4] at H
    have c4b0 : decide (Zd < (Zc.length : Int)) = true := decide_eq_true c4
    clear c4
    by_cases c5 : 0 ≤ Zd
    ·rw [if_pos c5] at H
     have c5b0 : decide (0 ≤ Zd) = true := decide_eq_true c5
     clear c5
     by_cases c6 : ((rd_T54 Zc Zd).f0).toList = a1.toList
     ·rw [if_pos c6] at H
      have c6b0 : (((rd_T54 Zc Zd).f0).toList == a1.toList) = true := beq_iff_eq.mpr c6
      have c6b1 : (((rd_T54 Zc Zd).f0).toList != a1.toList) = false := bne_eq_false_iff_eq.mpr c6
      clear c6
      simp only [Option.some.injEq, Prod.mk.injEq] at H
      obtain ⟨rfl, rfl⟩ := H
      have YC : wr.cell? ⟨Zb, 0, none⟩ = some (.slice Zv Zh.length Zw) := (blk_cell Za.out 0).trans rfl
      have YD : wr.cell? ⟨Zb, 1, none⟩ = some (.slice Zx Zc.length Zy) := (blk_cell Za.out 1).trans rfl
      have YE : wr.cell? ⟨Zb, 2, none⟩ = some (.slice Zz Zi.length ZA) := (blk_cell Za.out 2).trans rfl
      have YF : wr.cell? ⟨Zb, 3, none⟩ = some (.slice ZB Zj.length ZC) := (blk_cell Za.out 3).trans rfl
      have YG : wr.cell? ⟨Zb, 4, none⟩ = some (.slice ZD Zk.length ZE) := (blk_cell Za.out 4).trans rfl
      have YH : wr.cell? ⟨Zb, 5, none⟩ = some (.slice ZF Zl.length ZG) := (blk_cell Za.out 5).trans rfl
      have YI : wr.cell? ⟨Zb, 6, none⟩ = some (.slice ZH Zm.length ZI) := (blk_cell Za.out 6).trans rfl
      have YJ : wr.cell? ⟨Zb, 7, none⟩ = some (.slice ZJ Zn.length ZK) := (blk_cell Za.out 7).trans rfl
      have YK : wr.cell? ⟨Zb, 8, none⟩ = some (.slice ZL Zo.length ZM) := (blk_cell Za.out 8).trans rfl
      have YL : wr.cell? ⟨Zb, 9, none⟩ = some (.slice ZN Zp.length ZO) := (blk_cell Za.out 9).trans rfl
      have Yu : wr.cell? ⟨Zb, 10, none⟩ = some (.slice Zr Ze.length Zs) := (blk_cell Za.out 10).trans rfl
      have YM := blk_frozen Za.out 0
      have YN := blk_frozen Za.out 1
      have YO := blk_frozen Za.out 2
      have YP := blk_frozen Za.out 3
      have YQ := blk_frozen Za.out 4
      have YR := blk_frozen Za.out 5
      have YS := blk_frozen Za.out 6
      have YT := blk_frozen Za.out 7
      have YU := blk_frozen Za.out 8
      have YV := blk_frozen Za.out 9
      have Yv := blk_frozen Za.out 10
      have ZP : 0 ≤ (Zd : Int) := of_decide_eq_true (by first | (with_reducible assumption) | assumption)
      have ZQ : Zd < (Zc.length : Int) := of_decide_eq_true (by first | (with_reducible assumption) | assumption)
      obtain ⟨Yp, Yq, Zf, Zg⟩ := at_T54 ZU.out Zd ZP ZQ
      cases Yq
      replace Zf := (HB.out.cell (World.block_lt_of_cell? w _ Zf)).trans Zf
      replace Zg := (HB.out.cell (World.block_lt_of_cell? w _ Zg)).trans Zg
      replace ZP := eq_true ZP
      replace ZQ := eq_true ZQ
      have Yr : 0 ≤ (Zd : Int) := of_decide_eq_true (by first | (with_reducible assumption) | assumption)
      have Ys : Zd < (Zc.length : Int) := of_decide_eq_true (by first | (with_reducible assumption) | assumption)
      obtain ⟨Yt, YW, Zt, Zu⟩ := at_T54 ZU.out Zd Yr Ys
      obtain rfl : Yp = Yt := (by injection YW)
      replace Zt := (HB.out.cell (World.block_lt_of_cell? w _ Zt)).trans Zt
      replace Zu := (HB.out.cell (World.block_lt_of_cell? w _ Zu)).trans Zu
      replace Yr := eq_true Yr
      replace Ys := eq_true Ys
      go_wp2
      go_ret2
      exact ⟨by first | rfl | (simp [errW_none, errW_some] <;> rfl) | (simp [*, errW_none, errW_some] <;> rfl), by repeat (first | (with_reducible first | exact HB.out | apply below_alloc | apply pw_below_drewN | apply below_drew1 | refine below_set ?_ ZR.out) | exact HB.out)⟩
     ·rw [if_neg c6] at H
      have c6b0 : (((rd_T54 Zc Zd).f0).toList == a1.toList) = false := beq_eq_false_iff_ne.mpr c6
      have c6b1 : (((rd_T54 Zc Zd).f0).toList != a1.toList) = true := bne_iff_ne.mpr c6
      have H' := jA H
      clear H
      have YX : wr.cell? ⟨Zb, 0, none⟩ = some (.slice Zv Zh.length Zw) := (blk_cell Za.out 0).trans rfl
      have YY : wr.cell? ⟨Zb, 1, none⟩ = some (.slice Zx Zc.length Zy) := (blk_cell Za.out 1).trans rfl
      have YZ : wr.cell? ⟨Zb, 2, none⟩ = some (.slice Zz Zi.length ZA) := (blk_cell Za.out 2).trans rfl
      have Y0 : wr.cell? ⟨Zb, 3, none⟩ = some (.slice ZB Zj.length ZC) := (blk_cell Za.out 3).trans rfl
      have Y1 : wr.cell? ⟨Zb, 4, none⟩ = some (.slice ZD Zk.length ZE) := (blk_cell Za.out 4).trans rfl
      have Y2 : wr.cell? ⟨Zb, 5, none⟩ = some (.slice ZF Zl.length ZG) := (blk_cell Za.out 5).trans rfl
      have Y3 : wr.cell? ⟨Zb, 6, none⟩ = some (.slice ZH Zm.length ZI) := (blk_cell Za.out 6).trans rfl
      have Y4 : wr.cell? ⟨Zb, 7, none⟩ = some (.slice ZJ Zn.length ZK) := (blk_cell Za.out 7).trans rfl
      have Y5 : wr.cell? ⟨Zb, 8, none⟩ = some (.slice ZL Zo.length ZM) := (blk_cell Za.out 8).trans rfl
      have Y6 : wr.cell? ⟨Zb, 9, none⟩ = some (.slice ZN Zp.length ZO) := (blk_cell Za.out 9).trans rfl
      have Yw : wr.cell? ⟨Zb, 10, none⟩ = some (.slice Zr Ze.length Zs) := (blk_cell Za.out 10).trans rfl
      have Y7 := blk_frozen Za.out 0
      have Y8 := blk_frozen Za.out 1
      have Y9 := blk_frozen Za.out 2
      have Xa := blk_frozen Za.out 3
      have Xb := blk_frozen Za.out 4
      have Xc := blk_frozen Za.out 5
      have Xd := blk_frozen Za.out 6
      have Xe := blk_frozen Za.out 7
      have Xf := blk_frozen Za.out 8
      have Xg := blk_frozen Za.out 9
      have Yx := blk_frozen Za.out 10
      have ZP : 0 ≤ (Zd : Int) := of_decide_eq_true (by first | (with_reducible assumption) | assumption)
      have ZQ : Zd < (Zc.length : Int) := of_decide_eq_true (by first | (with_reducible assumption) | assumption)
      obtain ⟨Yp, Yq, Zf, Zg⟩ := at_T54 ZU.out Zd ZP ZQ
      cases Yq
      replace Zf := (HB.out.cell (World.block_lt_of_cell? w _ Zf)).trans Zf
      replace Zg := (HB.out.cell (World.block_lt_of_cell? w _ Zg)).trans Zg
      replace ZP := eq_true ZP
      replace ZQ := eq_true ZQ
      go_wp2
      go_roundg k1
      case measure => have := HK1.out; omega
      case rel => exact ⟨(wrap64 (Zd + 1)), (by first | rfl | (simp; done) | (simp [*]; done)), H', ⟨by have := HK1.out; omega⟩, ⟨by (with_reducible repeat (first | refine blk_drewN ?_ _ | refine blk_drew ?_ | refine blk_alloc ?_ _)); exact Za.out⟩, ⟨by repeat (first | (with_reducible first | exact HB.out | apply below_alloc | apply pw_below_drewN | apply below_drew1 | refine below_set ?_ ZR.out) | exact HB.out)⟩⟩
    ·rw [if_neg c5] at H
     exact absurd H (by simp)
   ·rw [if_neg c4] at H
    have c4b0 : decide (Zd < (Zc.length : Int)) = false := decide_eq_false c4
    clear c4
    simp only [Option.some.injEq, Prod.mk.injEq] at H
    obtain ⟨rfl, rfl⟩ := H
    have Xh : wr.cell? ⟨Zb, 0, none⟩ = some (.slice Zv Zh.length Zw) := (blk_cell Za.out 0).trans rfl
    have Xi : wr.cell? ⟨Zb, 1, none⟩ = some (.slice Zx Zc.length Zy) := (blk_cell Za.out 1).trans rfl
    have Xj : wr.cell? ⟨Zb, 2, none⟩ = some (.slice Zz Zi.length ZA) := (blk_cell Za.out 2).trans rfl
    have Xk : wr.cell? ⟨Zb, 3, none⟩ = some (.slice ZB Zj.length ZC) := (blk_cell Za.out 3).trans rfl
    have Xl : wr.cell? ⟨Zb, 4, none⟩ = some (.slice ZD Zk.length ZE) := (blk_cell Za.out 4).trans rfl
    have Xm : wr.cell? ⟨Zb, 5, none⟩ = some (.slice ZF Zl.length ZG) := (blk_cell Za.out 5).trans rfl
    have Xn : wr.cell? ⟨Zb, 6, none⟩ = some (.slice ZH Zm.length ZI) := (blk_cell Za.out 6).trans rfl
    have Xo : wr.cell? ⟨Zb, 7, none⟩ = some (.slice ZJ Zn.length ZK) := (blk_cell Za.out 7).trans rfl
    have Xp : wr.cell? ⟨Zb, 8, none⟩ = some (.slice ZL Zo.length ZM) := (blk_cell Za.out 8).trans rfl
    have Xq : wr.cell? ⟨Zb, 9, none⟩ = some (.slice ZN Zp.length ZO) := (blk_cell Za.out 9).trans rfl
    have Yy : wr.cell? ⟨Zb, 10, none⟩ = some (.slice Zr Ze.length Zs) := (blk_cell Za.out 10).trans rfl
    have Xr := blk_frozen Za.out 0
    have Xs := blk_frozen Za.out 1
    have Xt := blk_frozen Za.out 2
    have Xu := blk_frozen Za.out 3
    have Xv := blk_frozen Za.out 4
    have Xw := blk_frozen Za.out 5
    have Xx := blk_frozen Za.out 6
    have Xy := blk_frozen Za.out 7
    have Xz := blk_frozen Za.out 8
    have XA := blk_frozen Za.out 9
    have Yz := blk_frozen Za.out 10
    go_wp2
    go_ret2
    exact ⟨by first | rfl | (simp [errW_none, errW_some] <;> rfl) | (simp [*, errW_none, errW_some] <;> rfl), by repeat (first | (with_reducible first | exact HB.out | apply below_alloc | apply pw_below_drewN | apply below_drew1 | refine below_set ?_ ZR.out) | exact HB.out)⟩
end Go.Proofs.Ythaiodklfoegiaa.PG
namespace Go.Proofs.Ythaiodklfoegiaa.PG
open YthaiodklfoegiaaF
attribute [local go_sem high] run_feq run_fne run_flt_lt run_flt_le run_flt_gt run_flt_ge
open Go.RowKit YthaiodklfoegiaaW.PrintWords YthaiodklfoegiaaW.PrintLast YthaiodklfoegiaaW.PrintMore
attribute [local go_sem] max2_int min2_int max_two min_two max_three min_three max_four min_four
def gatehouseref08_Passes.f (Zg : Bool) (Zh : ByteArray) (Zi : ByteArray) (Ze : List ByteArray) (Zc : Int) (Zd : Nat) (a1 : Nat) : Option (Bool) := if Zc = 0 then (some true) else (if Zc = 1 then (if (flt_ge a1 Zd) = true then (some true) else (if Zc = 2 then (some (flt_lt a1 Zd)) else (some false))) else (if Zc = 2 then (some (flt_lt a1 Zd)) else (some false)))
theorem gatehouseref08_Passes.calls (Zg : Bool) (Zh : ByteArray) (Zi : ByteArray) (Zj : Option Addr) (Zk : Nat) (Ze : List ByteArray) (Zc : Int) (Zd : Nat) (a1 : Nat) (r : Bool) (w : World) (Zm : Kd.C Kd.string w Zj Ze.length Ze) (Zn : Ze.length ≤ Zk) (h : gatehouseref08_Passes.f Zg Zh Zi Ze Zc Zd a1 = some r) :
  Calls Try.prog 87 #[.agg #[.bool Zg, .string Zh, .string Zi, .slice Zj Ze.length Zk, .int .i8 Zc, .float .f64 Zd], .float .f64 a1] w fun e w' => e = .returned (.bool r) ∧ Below w.heap.size w w' := by
 have YA := Try.underlying78
 have Yy := jA Zm
 have Yz := jA Zn
 clear Zm Zn
 have HB := jA (Below.refl w.heap.size w)
 have H : (if Zc = 0 then (some true) else (if Zc = 1 then (if (flt_ge a1 Zd) = true then (some true) else (if Zc = 2 then (some (flt_lt a1 Zd)) else (some false))) else (if Zc = 2 then (some (flt_lt a1 Zd)) else (some false)))) = some r := h
 clear h
 by_cases c3 : Zc = 0
 ·rw [if_pos c3] at H
  have c3b0 : (Zc == 0) = true := beq_iff_eq.mpr c3
  have c3b1 : (Zc != 0) = false := bne_eq_false_iff_eq.mpr c3
  clear c3
  obtain rfl := Option.some.inj H
  go_enter Try.func87, Try.ntmps87
  go_wp2_with (first | ((with_reducible refine gate_dst (N := 2) rfl ?_); refine box_event ?hg (N := 2) ?hd (cs := #[.bool Zg, .string Zh, .string Zi, .slice Zj Ze.length Zk, .int .i8 Zc, .float .f64 Zd]) (t := 78) ?hr ?_; (case hd => rfl); (case hg => rfl); (case hr => first | (go_simp; done) | (go_simp; rfl)); intro Zb hg w4 hbox hb; have n0_ := jA (below_step (by repeat (first | (with_reducible first | exact HB.out | apply below_alloc | apply pw_below_drewN | apply below_drew1) | exact HB.out)) hb); have n1_ := jA (hbox); have n2_ := jA ((by rw [hg]; exact (below_size (by repeat (first | (with_reducible first | exact HB.out | apply below_alloc | apply pw_below_drewN | apply below_drew1) | exact HB.out))) : w.heap.size ≤ Zb)); have n3_ := jA ((by rw [hg]; exact (below_size (by repeat (first | (with_reducible first | exact HB.out | apply below_alloc | apply pw_below_drewN | apply below_drew1) | exact HB.out))) : w.heap.size ≤ Zb)); clear HB; have HB := n0_; have Za := n1_; have Zl := n2_; have Zf := n3_; clear n0_ n1_ n2_ n3_; clear hb hbox hg; have Ya : w4.cell? ⟨Zb, 0, none⟩ = some (.bool Zg) := (blk_cell Za.out 0).trans rfl; have Yb : w4.cell? ⟨Zb, 1, none⟩ = some (.string Zh) := (blk_cell Za.out 1).trans rfl; have Yc : w4.cell? ⟨Zb, 2, none⟩ = some (.string Zi) := (blk_cell Za.out 2).trans rfl; have Yd : w4.cell? ⟨Zb, 3, none⟩ = some (.slice Zj Ze.length Zk) := (blk_cell Za.out 3).trans rfl; have Ye : w4.cell? ⟨Zb, 4, none⟩ = some (.int .i8 Zc) := (blk_cell Za.out 4).trans rfl; have Yf : w4.cell? ⟨Zb, 5, none⟩ = some (.float .f64 Zd) := (blk_cell Za.out 5).trans rfl; have Yg := blk_frozen Za.out 0; have Yh := blk_frozen Za.out 1; have Yi := blk_frozen Za.out 2; have Yj := blk_frozen Za.out 3; have Yk := blk_frozen Za.out 4; have Yl := blk_frozen Za.out 5))
  go_ret
  exact ⟨by first | rfl | (simp [errW_none, errW_some] <;> rfl) | (simp [*, errW_none, errW_some] <;> rfl), by repeat (first | (with_reducible first | exact HB.out | apply below_alloc | apply pw_below_drewN | apply below_drew1 | refine below_set ?_ Zf.out) | exact HB.out)⟩
 ·rw [if_neg c3] at H
  have c3b0 : (Zc == 0) = false := beq_eq_false_iff_ne.mpr c3
  have c3b1 : (Zc != 0) = true := bne_iff_ne.mpr c3
  by_cases c6 : Zc = 1
  ·rw [if_pos c6] at H
   have c6b0 : (Zc == 1) = true := beq_iff_eq.mpr c6
   have c6b1 : (Zc != 1) = false := bne_eq_false_iff_eq.mpr c6
   clear c6
   by_cases c7 : (flt_ge a1 Zd) = true
   ·rw [if_pos c7] at H
    have c7b0 : (flt_ge a1 Zd) = true := c7
    clear c7
    obtain rfl := Option.some.inj H
    go_enter Try.func87, Try.ntmps87
    go_wp2_with (first | ((with_reducible refine gate_dst (N := 2) rfl ?_); refine box_event ?hg (N := 2) ?hd (cs := #[.bool Zg, .string Zh, .string Zi, .slice Zj Ze.length Zk, .int .i8 Zc, .float .f64 Zd]) (t := 78) ?hr ?_; (case hd => rfl); (case hg => rfl); (case hr => first | (go_simp; done) | (go_simp; rfl)); intro Zb hg w8 hbox hb; have n0_ := jA (below_step (by repeat (first | (with_reducible first | exact HB.out | apply below_alloc | apply pw_below_drewN | apply below_drew1) | exact HB.out)) hb); have n1_ := jA (hbox); have n2_ := jA ((by rw [hg]; exact (below_size (by repeat (first | (with_reducible first | exact HB.out | apply below_alloc | apply pw_below_drewN | apply below_drew1) | exact HB.out))) : w.heap.size ≤ Zb)); have n3_ := jA ((by rw [hg]; exact (below_size (by repeat (first | (with_reducible first | exact HB.out | apply below_alloc | apply pw_below_drewN | apply below_drew1) | exact HB.out))) : w.heap.size ≤ Zb)); clear HB; have HB := n0_; have Za := n1_; have Zl := n2_; have Zf := n3_; clear n0_ n1_ n2_ n3_; clear hb hbox hg; have Ym : w8.cell? ⟨Zb, 0, none⟩ = some (.bool Zg) := (blk_cell Za.out 0).trans rfl; have Yn : w8.cell? ⟨Zb, 1, none⟩ = some (.string Zh) := (blk_cell Za.out 1).trans rfl; have Yo : w8.cell? ⟨Zb, 2, none⟩ = some (.string Zi) := (blk_cell Za.out 2).trans rfl; have Yp : w8.cell? ⟨Zb, 3, none⟩ = some (.slice Zj Ze.length Zk) := (blk_cell Za.out 3).trans rfl; have Yq : w8.cell? ⟨Zb, 4, none⟩ = some (.int .i8 Zc) := (blk_cell Za.out 4).trans rfl; have Yr : w8.cell? ⟨Zb, 5, none⟩ = some (.float .f64 Zd) := (blk_cell Za.out 5).trans rfl; have Ys := blk_frozen Za.out 0; have Yt := blk_frozen Za.out 1; have Yu := blk_frozen Za.out 2; have Yv := blk_frozen Za.out 3; have Yw := blk_frozen Za.out 4; have Yx := blk_frozen Za.out 5))
    go_ret
    exact ⟨by first | rfl | (simp [errW_none, errW_some] <;> rfl) | (simp [*, errW_none, errW_some] <;> rfl), by repeat (first | (with_reducible first | exact HB.out | apply below_alloc | apply pw_below_drewN | apply below_drew1 | refine below_set ?_ Zf.out) | exact HB.out)⟩
   ·rw [if_neg c7] at H
    have c7b0 : (flt_ge a1 Zd) = false := by simpa using c7
    clear c7
    by_cases c10 : Zc = 2
    ·rw [if_pos c10] at H
     have c10b0 : (Zc == 2) = true := beq_iff_eq.mpr c10
     have c10b1 : (Zc != 2) = false := bne_eq_false_iff_eq.mpr c10
     clear c10
     obtain rfl := Option.some.inj H
     go_enter Try.func87, Try.ntmps87
     go_wp2_with (first | ((with_reducible refine gate_dst (N := 2) rfl ?_); refine box_event ?hg (N := 2) ?hd (cs := #[.bool Zg, .string Zh, .string Zi, .slice Zj Ze.length Zk, .int .i8 Zc, .float .f64 Zd]) (t := 78) ?hr ?_; (case hd => rfl); (case hg => rfl); (case hr => first | (go_simp; done) | (go_simp; rfl)); intro Zb hg w11 hbox hb; have n0_ := jA (below_step (by repeat (first | (with_reducible first | exact HB.out | apply below_alloc | apply pw_below_drewN | apply below_drew1) | exact HB.out)) hb); have n1_ := jA (hbox); have n2_ := jA ((by rw [hg]; exact (below_size (by repeat (first | (with_reducible first | exact HB.out | apply below_alloc | apply pw_below_drewN | apply below_drew1) | exact HB.out))) : w.heap.size ≤ Zb)); have n3_ := jA ((by rw [hg]; exact (below_size (by repeat (first | (with_reducible first | exact HB.out | apply below_alloc | apply pw_below_drewN | apply below_drew1) | exact HB.out))) : w.heap.size ≤ Zb)); clear HB; have HB := n0_; have Za := n1_; have Zl := n2_; have Zf := n3_; clear n0_ n1_ n2_ n3_; clear hb hbox hg; have Zo : w11.cell? ⟨Zb, 0, none⟩ = some (.bool Zg) := (blk_cell Za.out 0).trans rfl; have Zp : w11.cell? ⟨Zb, 1, none⟩ = some (.string Zh) := (blk_cell Za.out 1).trans rfl; have Zq : w11.cell? ⟨Zb, 2, none⟩ = some (.string Zi) := (blk_cell Za.out 2).trans rfl; have Zr : w11.cell? ⟨Zb, 3, none⟩ = some (.slice Zj Ze.length Zk) := (blk_cell Za.out 3).trans rfl; have Zs : w11.cell? ⟨Zb, 4, none⟩ = some (.int .i8 Zc) := (blk_cell Za.out 4).trans rfl; have Zt : w11.cell? ⟨Zb, 5, none⟩ = some (.float .f64 Zd) := (blk_cell Za.out 5).trans rfl; have Zu := blk_frozen Za.out 0; have Zv := blk_frozen Za.out 1; have Zw := blk_frozen Za.out 2; have Zx := blk_frozen Za.out 3; have Zy := blk_frozen Za.out 4; have Zz := blk_frozen Za.out 5))
     go_ret
     exact ⟨by first | rfl | (simp [errW_none, errW_some] <;> rfl) | (simp [*, errW_none, errW_some] <;> rfl), by repeat (first | (with_reducible first | exact HB.out | apply below_alloc | apply pw_below_drewN | apply below_drew1 | refine below_set ?_ Zf.out) | exact HB.out)⟩
    ·rw [if_neg c10] at H
     have c10b0 : (Zc == 2) = false := beq_eq_false_iff_ne.mpr c10
     have c10b1 : (Zc != 2) = true := bne_iff_ne.mpr c10
     obtain rfl := Option.some.inj H
     go_enter Try.func87, Try.ntmps87
     go_wp2_with (first | ((with_reducible refine gate_dst (N := 2) rfl ?_); refine box_event ?hg (N := 2) ?hd (cs := #[.bool Zg, .string Zh, .string Zi, .slice Zj Ze.length Zk, .int .i8 Zc, .float .f64 Zd]) (t := 78) ?hr ?_; (case hd => rfl); (case hg => rfl); (case hr => first | (go_simp; done) | (go_simp; rfl)); intro Zb hg w13 hbox hb; have n0_ := jA (below_step (by repeat (first | (with_reducible first | exact HB.out | apply below_alloc | apply pw_below_drewN | apply below_drew1) | exact HB.out)) hb); have n1_ := jA (hbox); have n2_ := jA ((by rw [hg]; exact (below_size (by repeat (first | (with_reducible first | exact HB.out | apply below_alloc | apply pw_below_drewN | apply below_drew1) | exact HB.out))) : w.heap.size ≤ Zb)); have n3_ := jA ((by rw [hg]; exact (below_size (by repeat (first | (with_reducible first | exact HB.out | apply below_alloc | apply pw_below_drewN | apply below_drew1) | exact HB.out))) : w.heap.size ≤ Zb)); clear HB; have HB := n0_; have Za := n1_; have Zl := n2_; have Zf := n3_; clear n0_ n1_ n2_ n3_; clear hb hbox hg; have ZA : w13.cell? ⟨Zb, 0, none⟩ = some (.bool Zg) := (blk_cell Za.out 0).trans rfl; have ZB : w13.cell? ⟨Zb, 1, none⟩ = some (.string Zh) := (blk_cell Za.out 1).trans rfl; have ZC : w13.cell? ⟨Zb, 2, none⟩ = some (.string Zi) := (blk_cell Za.out 2).trans rfl; have ZD : w13.cell? ⟨Zb, 3, none⟩ = some (.slice Zj Ze.length Zk) := (blk_cell Za.out 3).trans rfl; have ZE : w13.cell? ⟨Zb, 4, none⟩ = some (.int .i8 Zc) := (blk_cell Za.out 4).trans rfl; have ZF : w13.cell? ⟨Zb, 5, none⟩ = some (.float .f64 Zd) := (blk_cell Za.out 5).trans rfl; have ZG := blk_frozen Za.out 0; have ZH := blk_frozen Za.out 1; have ZI := blk_frozen Za.out 2; have ZJ := blk_frozen Za.out 3; have ZK := blk_frozen Za.out 4; have ZL := blk_frozen Za.out 5))
     go_ret
     exact ⟨by first | rfl | (simp [errW_none, errW_some] <;> rfl) | (simp [*, errW_none, errW_some] <;> rfl), by repeat (first | (with_reducible first | exact HB.out | apply below_alloc | apply pw_below_drewN | apply below_drew1 | refine below_set ?_ Zf.out) | exact HB.out)⟩
  ·rw [if_neg c6] at H
   have c6b0 : (Zc == 1) = false := beq_eq_false_iff_ne.mpr c6
   have c6b1 : (Zc != 1) = true := bne_iff_ne.mpr c6
   by_cases c15 : Zc = 2
   ·rw [if_pos c15] at H
    have c15b0 : (Zc == 2) = true := beq_iff_eq.mpr c15
    have c15b1 : (Zc != 2) = false := bne_eq_false_iff_eq.mpr c15
    clear c15
    obtain rfl := Option.some.inj H
    go_enter Try.func87, Try.ntmps87
    go_wp2_with (first | ((with_reducible refine gate_dst (N := 2) rfl ?_); refine box_event ?hg (N := 2) ?hd (cs := #[.bool Zg, .string Zh, .string Zi, .slice Zj Ze.length Zk, .int .i8 Zc, .float .f64 Zd]) (t := 78) ?hr ?_; (case hd => rfl); (case hg => rfl); (case hr => first | (go_simp; done) | (go_simp; rfl)); intro Zb hg w16 hbox hb; have n0_ := jA (below_step (by repeat (first | (with_reducible first | exact HB.out | apply below_alloc | apply pw_below_drewN | apply below_drew1) | exact HB.out)) hb); have n1_ := jA (hbox); have n2_ := jA ((by rw [hg]; exact (below_size (by repeat (first | (with_reducible first | exact HB.out | apply below_alloc | apply pw_below_drewN | apply below_drew1) | exact HB.out))) : w.heap.size ≤ Zb)); have n3_ := jA ((by rw [hg]; exact (below_size (by repeat (first | (with_reducible first | exact HB.out | apply below_alloc | apply pw_below_drewN | apply below_drew1) | exact HB.out))) : w.heap.size ≤ Zb)); clear HB; have HB := n0_; have Za := n1_; have Zl := n2_; have Zf := n3_; clear n0_ n1_ n2_ n3_; clear hb hbox hg; have ZM : w16.cell? ⟨Zb, 0, none⟩ = some (.bool Zg) := (blk_cell Za.out 0).trans rfl; have ZN : w16.cell? ⟨Zb, 1, none⟩ = some (.string Zh) := (blk_cell Za.out 1).trans rfl; have ZO : w16.cell? ⟨Zb, 2, none⟩ = some (.string Zi) := (blk_cell Za.out 2).trans rfl; have ZP : w16.cell? ⟨Zb, 3, none⟩ = some (.slice Zj Ze.length Zk) := (blk_cell Za.out 3).trans rfl; have ZQ : w16.cell? ⟨Zb, 4, none⟩ = some (.int .i8 Zc) := (blk_cell Za.out 4).trans rfl; have ZR : w16.cell? ⟨Zb, 5, none⟩ = some (.float .f64 Zd) := (blk_cell Za.out 5).trans rfl; have ZS := blk_frozen Za.out 0; have ZT := blk_frozen Za.out 1; have ZU := blk_frozen Za.out 2; have ZV := blk_frozen Za.out 3; have ZW := blk_frozen Za.out 4; have ZX := blk_frozen Za.out 5))
    go_ret
    exact ⟨by first | rfl | (simp [errW_none, errW_some] <;> rfl) | (simp [*, errW_none, errW_some] <;> rfl), by repeat (first | (with_reducible first | exact HB.out | apply below_alloc | apply pw_below_drewN | apply below_drew1 | refine below_set ?_ Zf.out) | exact HB.out)⟩
   ·rw [if_neg c15] at H
    have c15b0 : (Zc == 2) = false := beq_eq_false_iff_ne.mpr c15
    have c15b1 : (Zc != 2) = true := bne_iff_ne.mpr c15
    obtain rfl := Option.some.inj H
    go_enter Try.func87, Try.ntmps87
    go_wp2_with (first | ((with_reducible refine gate_dst (N := 2) rfl ?_); refine box_event ?hg (N := 2) ?hd (cs := #[.bool Zg, .string Zh, .string Zi, .slice Zj Ze.length Zk, .int .i8 Zc, .float .f64 Zd]) (t := 78) ?hr ?_; (case hd => rfl); (case hg => rfl); (case hr => first | (go_simp; done) | (go_simp; rfl)); intro Zb hg w18 hbox hb; have n0_ := jA (below_step (by repeat (first | (with_reducible first | exact HB.out | apply below_alloc | apply pw_below_drewN | apply below_drew1) | exact HB.out)) hb); have n1_ := jA (hbox); have n2_ := jA ((by rw [hg]; exact (below_size (by repeat (first | (with_reducible first | exact HB.out | apply below_alloc | apply pw_below_drewN | apply below_drew1) | exact HB.out))) : w.heap.size ≤ Zb)); have n3_ := jA ((by rw [hg]; exact (below_size (by repeat (first | (with_reducible first | exact HB.out | apply below_alloc | apply pw_below_drewN | apply below_drew1) | exact HB.out))) : w.heap.size ≤ Zb)); clear HB; have HB := n0_; have Za := n1_; have Zl := n2_; have Zf := n3_; clear n0_ n1_ n2_ n3_; clear hb hbox hg; have ZY : w18.cell? ⟨Zb, 0, none⟩ = some (.bool Zg) := (blk_cell Za.out 0).trans rfl; have ZZ : w18.cell? ⟨Zb, 1, none⟩ = some (.string Zh) := (blk_cell Za.out 1).trans rfl; have Z0 : w18.cell? ⟨Zb, 2, none⟩ = some (.string Zi) := (blk_cell Za.out 2).trans rfl; have Z1 : w18.cell? ⟨Zb, 3, none⟩ = some (.slice Zj Ze.length Zk) := (blk_cell Za.out 3).trans rfl; have Z2 : w18.cell? ⟨Zb, 4, none⟩ = some (.int .i8 Zc) := (blk_cell Za.out 4).trans rfl; have Z3 : w18.cell? ⟨Zb, 5, none⟩ = some (.float .f64 Zd) := (blk_cell Za.out 5).trans rfl; have Z4 := blk_frozen Za.out 0; have Z5 := blk_frozen Za.out 1; have Z6 := blk_frozen Za.out 2; have Z7 := blk_frozen Za.out 3; have Z8 := blk_frozen Za.out 4; have Z9 := blk_frozen Za.out 5))
    go_ret
    exact ⟨by first | rfl | (simp [errW_none, errW_some] <;> rfl) | (simp [*, errW_none, errW_some] <;> rfl), by repeat (first | (with_reducible first | exact HB.out | apply below_alloc | apply pw_below_drewN | apply below_drew1 | refine below_set ?_ Zf.out) | exact HB.out)⟩
end Go.Proofs.Ythaiodklfoegiaa.PG
namespace Go.Proofs.Ythaiodklfoegiaa.PG
open YthaiodklfoegiaaF
attribute [local go_sem high] run_feq run_fne run_flt_lt run_flt_le run_flt_gt run_flt_ge
open Go.RowKit YthaiodklfoegiaaW.PrintWords YthaiodklfoegiaaW.PrintLast YthaiodklfoegiaaW.PrintMore
attribute [local go_sem] max2_int min2_int max_two min_two max_three min_three max_four min_four
def gatehouseref08_about.f (k : Nat) (Zh : Bool) (Zd : ByteArray) (Zc : ByteArray) (Zg : List ByteArray) (Zi : Int) (Zj : Nat) (l1 : List ByteArray) (a2 : Nat) (l3 : List ByteArray) : Option (Bool) := (gatehouseref08_in.f k l1 Zd).bind fun Zp => ((gatehouseref08_in.f k l3 Zc).bind fun Zo => ((gatehouseref08_Passes.f Zh Zd Zc Zg Zi Zj a2).bind fun Zl => (if Zp = true then (if Zo = true then (some Zl) else (some false)) else (some false))))
theorem gatehouseref08_about.calls (k : Nat) (Zh : Bool) (Zd : ByteArray) (Zc : ByteArray) (Zm : Option Addr) (Zn : Nat) (Zg : List ByteArray) (Zi : Int) (Zj : Nat) (A1 : Option Addr) (c1 : Nat) (l1 : List ByteArray) (a2 : Nat) (A3 : Option Addr) (c3 : Nat) (l3 : List ByteArray) (r : Bool) (w : World) (Zs : Kd.C Kd.string w Zm Zg.length Zg) (Zt : Zg.length ≤ Zn) (hr1 : Kd.C Kd.string w A1 l1.length l1) (hc1 : l1.length ≤ c1) (hr3 : Kd.C Kd.string w A3 l3.length l3) (hc3 : l3.length ≤ c3) (h : gatehouseref08_about.f k Zh Zd Zc Zg Zi Zj l1 a2 l3 = some r) :
  Calls Try.prog 80 #[.agg #[.bool Zh, .string Zd, .string Zc, .slice Zm Zg.length Zn, .int .i8 Zi, .float .f64 Zj], .slice A1 l1.length c1, .float .f64 a2, .slice A3 l3.length c3] w fun e w' => e = .returned (.bool r) ∧ Below w.heap.size w w' := by
 have Z5 := Try.underlying78
 have Zq := jA Zs
 have Zr := jA Zt
 clear Zs Zt
 have HR1 := jA hr1
 have HC1 := jA hc1
 clear hr1 hc1
 have HR3 := jA hr3
 have HC3 := jA hc3
 clear hr3 hc3
 have HB := jA (Below.refl w.heap.size w)
 have H : ((gatehouseref08_in.f k l1 Zd).bind fun Zp => ((gatehouseref08_in.f k l3 Zc).bind fun Zo => ((gatehouseref08_Passes.f Zh Zd Zc Zg Zi Zj a2).bind fun Zl => (if Zp = true then (if Zo = true then (some Zl) else (some false)) else (some false))))) = some r := h
 clear h
 replace H := Option.bind_eq_some_iff.mp H
 obtain ⟨Zp, A50, H⟩ := H
 replace H : ((gatehouseref08_in.f k l3 Zc).bind fun Zo => ((gatehouseref08_Passes.f Zh Zd Zc Zg Zi Zj a2).bind fun Zl => (if Zp = true then (if Zo = true then (some Zl) else (some false)) else (some false)))) = some r := H
 have A5 := jA A50
 clear A50
 replace H := Option.bind_eq_some_iff.mp H
 obtain ⟨Zo, A60, H⟩ := H
 replace H : ((gatehouseref08_Passes.f Zh Zd Zc Zg Zi Zj a2).bind fun Zl => (if Zp = true then (if Zo = true then (some Zl) else (some false)) else (some false))) = some r := H
 have A6 := jA A60
 clear A60
 replace H := Option.bind_eq_some_iff.mp H
 obtain ⟨Zl, A70, H⟩ := H
 replace H : (if Zp = true then (if Zo = true then (some Zl) else (some false)) else (some false)) = some r := H
 have A7 := jA A70
 clear A70
 by_cases c8 : Zp = true
 ·subst c8
  have H1 : (if Zo = true then (some Zl) else (some false)) = some r := by rw [if_pos rfl] at H; exact H
  clear H
  have H := H1
  clear H1
  by_cases c9 : Zo = true
  ·subst c9
   have H1 : (some Zl) = some r := by rw [if_pos rfl] at H; exact H
   clear H
   have H := H1
   clear H1
   obtain rfl := Option.some.inj H
   go_enter Try.func80, Try.ntmps80
   go_wp2_with (first | ((with_reducible refine gate_dst (N := 4) rfl ?_); refine box_event ?hg (N := 4) ?hd (cs := #[.bool Zh, .string Zd, .string Zc, .slice Zm Zg.length Zn, .int .i8 Zi, .float .f64 Zj]) (t := 78) ?hr ?_; (case hd => rfl); (case hg => rfl); (case hr => first | (go_simp; done) | (go_simp; rfl)); intro Zb hg w10 hbox hb; have n0_ := jA (below_step (by repeat (first | (with_reducible first | exact HB.out | apply below_alloc | apply pw_below_drewN | apply below_drew1) | exact HB.out)) hb); have n1_ := jA (hbox); have n2_ := jA ((by rw [hg]; exact (below_size (by repeat (first | (with_reducible first | exact HB.out | apply below_alloc | apply pw_below_drewN | apply below_drew1) | exact HB.out))) : w.heap.size ≤ Zb)); have n3_ := jA ((by rw [hg]; exact (below_size (by repeat (first | (with_reducible first | exact HB.out | apply below_alloc | apply pw_below_drewN | apply below_drew1) | exact HB.out))) : w.heap.size ≤ Zb)); clear HB; have HB := n0_; have Za := n1_; have Zu := n2_; have Zk := n3_; clear n0_ n1_ n2_ n3_; clear hb hbox hg; have Zv : w10.cell? ⟨Zb, 0, none⟩ = some (.bool Zh) := (blk_cell Za.out 0).trans rfl; have Zw : w10.cell? ⟨Zb, 1, none⟩ = some (.string Zd) := (blk_cell Za.out 1).trans rfl; have Zx : w10.cell? ⟨Zb, 2, none⟩ = some (.string Zc) := (blk_cell Za.out 2).trans rfl; have Zy : w10.cell? ⟨Zb, 3, none⟩ = some (.slice Zm Zg.length Zn) := (blk_cell Za.out 3).trans rfl; have Zz : w10.cell? ⟨Zb, 4, none⟩ = some (.int .i8 Zi) := (blk_cell Za.out 4).trans rfl; have ZA : w10.cell? ⟨Zb, 5, none⟩ = some (.float .f64 Zj) := (blk_cell Za.out 5).trans rfl; have ZB := blk_frozen Za.out 0; have ZC := blk_frozen Za.out 1; have ZD := blk_frozen Za.out 2; have ZE := blk_frozen Za.out 3; have ZF := blk_frozen Za.out 4; have ZG := blk_frozen Za.out 5) | ((with_reducible refine gate_callee (f := 79) rfl ?_); refine goesL_ (some 15) rfl rfl Try.func79 (by kernel_rfl) rfl #[.slice A1 l1.length c1, .string Zd] rfl (by (try simp only [List.map_toArray, List.map_cons, List.map_nil]); first | done | rfl | (simp only [List.length_drop, List.length_take]; rfl)) ?_; (with_reducible refine (gatehouseref08_in.calls k _ _ l1 Zd true _ ?Ze ?Zf A5.out).mono ?_); (case Ze => repeat (first | exact (Kd.C_below HR1.out HB.out) | (with_reducible refine Kd.C_alloc ?_ _) | (with_reducible refine Kd.C_drewN ?_ _) | (with_reducible refine Kd.C_drew ?_))); (case Zf => exact HC1.out); rintro e w' ⟨rfl, ⟨nd, rfl⟩⟩; refine ⟨_, rfl, ?_⟩) | ((with_reducible refine gate_callee (f := 79) rfl ?_); refine goesL_ (some 19) rfl rfl Try.func79 (by kernel_rfl) rfl #[.slice A3 l3.length c3, .string Zc] rfl (by (try simp only [List.map_toArray, List.map_cons, List.map_nil]); first | done | rfl | (simp only [List.length_drop, List.length_take]; rfl)) ?_; (with_reducible refine (gatehouseref08_in.calls k _ _ l3 Zc true _ ?Ze ?Zf A6.out).mono ?_); (case Ze => repeat (first | exact (Kd.C_below HR3.out (by repeat (first | (with_reducible first | exact HB.out | apply below_alloc | apply pw_below_drewN | apply below_drew1 | refine below_set ?_ Zk.out) | exact HB.out))) | (with_reducible refine Kd.C_alloc ?_ _) | (with_reducible refine Kd.C_drewN ?_ _) | (with_reducible refine Kd.C_drew ?_))); (case Zf => exact HC3.out); rintro e w' ⟨rfl, ⟨nd, rfl⟩⟩; refine ⟨_, rfl, ?_⟩) | ((with_reducible refine gate_callee (f := 87) rfl ?_); refine goesL_ (some 22) rfl rfl Try.func87 (by kernel_rfl) rfl #[.agg #[.bool Zh, .string Zd, .string Zc, .slice Zm Zg.length Zn, .int .i8 Zi, .float .f64 Zj], .float .f64 a2] rfl (by (try simp only [List.map_toArray, List.map_cons, List.map_nil]); first | done | rfl | (simp only [List.length_drop, List.length_take]; rfl)) ?_; (with_reducible refine (gatehouseref08_Passes.calls Zh Zd Zc _ _ Zg Zi Zj a2 Zl _ ?Ze ?Zf A7.out).mono ?_); (case Ze => repeat (first | exact (Kd.C_below Zq.out (by repeat (first | (with_reducible first | exact HB.out | apply below_alloc | apply pw_below_drewN | apply below_drew1 | refine below_set ?_ Zk.out) | exact HB.out))) | (with_reducible refine Kd.C_alloc ?_ _) | (with_reducible refine Kd.C_drewN ?_ _) | (with_reducible refine Kd.C_drew ?_))); (case Zf => exact Zr.out); rintro e w12 ⟨rfl, hb⟩; refine ⟨_, rfl, ?_⟩; have n0_ := jA (blk_below (g := Zb) (o := .cells #[.bool Zh, .string Zd, .string Zc, .slice Zm Zg.length Zn, .int .i8 Zi, .float .f64 Zj] 78 (0, 0)) (by (with_reducible repeat (first | refine blk_drewN ?_ _ | refine blk_drew ?_ | refine blk_alloc ?_ _)); exact Za.out) hb); have n1_ := jA (below_step (by repeat (first | (with_reducible first | exact HB.out | apply below_alloc | apply pw_below_drewN | apply below_drew1 | refine below_set ?_ Zk.out) | exact HB.out)) hb); clear Za; clear HB; have Za := n0_; have HB := n1_; clear n0_ n1_; (try clear hb); (try clear hb2); (try clear hk); (try clear hi)))
   go_ret
   exact ⟨by first | rfl | (simp [errW_none, errW_some] <;> rfl) | (simp [*, errW_none, errW_some] <;> rfl), by repeat (first | (with_reducible first | exact HB.out | apply below_alloc | apply pw_below_drewN | apply below_drew1 | refine below_set ?_ Zk.out) | exact HB.out)⟩
  ·replace c9 := Bool.eq_false_iff.mpr c9
   subst c9
   have H1 : (some false) = some r := by rw [if_neg (show ¬ (false = true) by decide)] at H; exact H
   clear H
   have H := H1
   clear H1
   obtain rfl := Option.some.inj H
   go_enter Try.func80, Try.ntmps80
   go_wp2_with (first | ((with_reducible refine gate_dst (N := 4) rfl ?_); refine box_event ?hg (N := 4) ?hd (cs := #[.bool Zh, .string Zd, .string Zc, .slice Zm Zg.length Zn, .int .i8 Zi, .float .f64 Zj]) (t := 78) ?hr ?_; (case hd => rfl); (case hg => rfl); (case hr => first | (go_simp; done) | (go_simp; rfl)); intro Zb hg w13 hbox hb; have n0_ := jA (below_step (by repeat (first | (with_reducible first | exact HB.out | apply below_alloc | apply pw_below_drewN | apply below_drew1) | exact HB.out)) hb); have n1_ := jA (hbox); have n2_ := jA ((by rw [hg]; exact (below_size (by repeat (first | (with_reducible first | exact HB.out | apply below_alloc | apply pw_below_drewN | apply below_drew1) | exact HB.out))) : w.heap.size ≤ Zb)); have n3_ := jA ((by rw [hg]; exact (below_size (by repeat (first | (with_reducible first | exact HB.out | apply below_alloc | apply pw_below_drewN | apply below_drew1) | exact HB.out))) : w.heap.size ≤ Zb)); clear HB; have HB := n0_; have Za := n1_; have Zu := n2_; have Zk := n3_; clear n0_ n1_ n2_ n3_; clear hb hbox hg; have ZH : w13.cell? ⟨Zb, 0, none⟩ = some (.bool Zh) := (blk_cell Za.out 0).trans rfl; have ZI : w13.cell? ⟨Zb, 1, none⟩ = some (.string Zd) := (blk_cell Za.out 1).trans rfl; have ZJ : w13.cell? ⟨Zb, 2, none⟩ = some (.string Zc) := (blk_cell Za.out 2).trans rfl; have ZK : w13.cell? ⟨Zb, 3, none⟩ = some (.slice Zm Zg.length Zn) := (blk_cell Za.out 3).trans rfl; have ZL : w13.cell? ⟨Zb, 4, none⟩ = some (.int .i8 Zi) := (blk_cell Za.out 4).trans rfl; have ZM : w13.cell? ⟨Zb, 5, none⟩ = some (.float .f64 Zj) := (blk_cell Za.out 5).trans rfl; have ZN := blk_frozen Za.out 0; have ZO := blk_frozen Za.out 1; have ZP := blk_frozen Za.out 2; have ZQ := blk_frozen Za.out 3; have ZR := blk_frozen Za.out 4; have ZS := blk_frozen Za.out 5) | ((with_reducible refine gate_callee (f := 79) rfl ?_); refine goesL_ (some 15) rfl rfl Try.func79 (by kernel_rfl) rfl #[.slice A1 l1.length c1, .string Zd] rfl (by (try simp only [List.map_toArray, List.map_cons, List.map_nil]); first | done | rfl | (simp only [List.length_drop, List.length_take]; rfl)) ?_; (with_reducible refine (gatehouseref08_in.calls k _ _ l1 Zd true _ ?Ze ?Zf A5.out).mono ?_); (case Ze => repeat (first | exact (Kd.C_below HR1.out HB.out) | (with_reducible refine Kd.C_alloc ?_ _) | (with_reducible refine Kd.C_drewN ?_ _) | (with_reducible refine Kd.C_drew ?_))); (case Zf => exact HC1.out); rintro e w' ⟨rfl, ⟨nd, rfl⟩⟩; refine ⟨_, rfl, ?_⟩) | ((with_reducible refine gate_callee (f := 79) rfl ?_); refine goesL_ (some 19) rfl rfl Try.func79 (by kernel_rfl) rfl #[.slice A3 l3.length c3, .string Zc] rfl (by (try simp only [List.map_toArray, List.map_cons, List.map_nil]); first | done | rfl | (simp only [List.length_drop, List.length_take]; rfl)) ?_; (with_reducible refine (gatehouseref08_in.calls k _ _ l3 Zc false _ ?Ze ?Zf A6.out).mono ?_); (case Ze => repeat (first | exact (Kd.C_below HR3.out (by repeat (first | (with_reducible first | exact HB.out | apply below_alloc | apply pw_below_drewN | apply below_drew1 | refine below_set ?_ Zk.out) | exact HB.out))) | (with_reducible refine Kd.C_alloc ?_ _) | (with_reducible refine Kd.C_drewN ?_ _) | (with_reducible refine Kd.C_drew ?_))); (case Zf => exact HC3.out); rintro e w' ⟨rfl, ⟨nd, rfl⟩⟩; refine ⟨_, rfl, ?_⟩) | ((with_reducible refine gate_callee (f := 87) rfl ?_); refine goesL_ (some 22) rfl rfl Try.func87 (by kernel_rfl) rfl #[.agg #[.bool Zh, .string Zd, .string Zc, .slice Zm Zg.length Zn, .int .i8 Zi, .float .f64 Zj], .float .f64 a2] rfl (by (try simp only [List.map_toArray, List.map_cons, List.map_nil]); first | done | rfl | (simp only [List.length_drop, List.length_take]; rfl)) ?_; (with_reducible refine (gatehouseref08_Passes.calls Zh Zd Zc _ _ Zg Zi Zj a2 Zl _ ?Ze ?Zf A7.out).mono ?_); (case Ze => repeat (first | exact (Kd.C_below Zq.out (by repeat (first | (with_reducible first | exact HB.out | apply below_alloc | apply pw_below_drewN | apply below_drew1 | refine below_set ?_ Zk.out) | exact HB.out))) | (with_reducible refine Kd.C_alloc ?_ _) | (with_reducible refine Kd.C_drewN ?_ _) | (with_reducible refine Kd.C_drew ?_))); (case Zf => exact Zr.out); rintro e w15 ⟨rfl, hb⟩; refine ⟨_, rfl, ?_⟩; have n0_ := jA (blk_below (g := Zb) (o := .cells #[.bool Zh, .string Zd, .string Zc, .slice Zm Zg.length Zn, .int .i8 Zi, .float .f64 Zj] 78 (0, 0)) (by (with_reducible repeat (first | refine blk_drewN ?_ _ | refine blk_drew ?_ | refine blk_alloc ?_ _)); exact Za.out) hb); have n1_ := jA (below_step (by repeat (first | (with_reducible first | exact HB.out | apply below_alloc | apply pw_below_drewN | apply below_drew1 | refine below_set ?_ Zk.out) | exact HB.out)) hb); clear Za; clear HB; have Za := n0_; have HB := n1_; clear n0_ n1_; (try clear hb); (try clear hb2); (try clear hk); (try clear hi)))
   go_ret
   exact ⟨by first | rfl | (simp [errW_none, errW_some] <;> rfl) | (simp [*, errW_none, errW_some] <;> rfl), by repeat (first | (with_reducible first | exact HB.out | apply below_alloc | apply pw_below_drewN | apply below_drew1 | refine below_set ?_ Zk.out) | exact HB.out)⟩
 ·replace c8 := Bool.eq_false_iff.mpr c8
  subst c8
  have H1 : (some false) = some r := by rw [if_neg (show ¬ (false = true) by decide)] at H; exact H
  clear H
  have H := H1
  clear H1
  obtain rfl := Option.some.inj H
  go_enter Try.func80, Try.ntmps80
  go_wp2_with (first | ((with_reducible refine gate_dst (N := 4) rfl ?_); refine box_event ?hg (N := 4) ?hd (cs := #[.bool Zh, .string Zd, .string Zc, .slice Zm Zg.length Zn, .int .i8 Zi, .float .f64 Zj]) (t := 78) ?hr ?_; (case hd => rfl); (case hg => rfl); (case hr => first | (go_simp; done) | (go_simp; rfl)); intro Zb hg w16 hbox hb; have n0_ := jA (below_step (by repeat (first | (with_reducible first | exact HB.out | apply below_alloc | apply pw_below_drewN | apply below_drew1) | exact HB.out)) hb); have n1_ := jA (hbox); have n2_ := jA ((by rw [hg]; exact (below_size (by repeat (first | (with_reducible first | exact HB.out | apply below_alloc | apply pw_below_drewN | apply below_drew1) | exact HB.out))) : w.heap.size ≤ Zb)); have n3_ := jA ((by rw [hg]; exact (below_size (by repeat (first | (with_reducible first | exact HB.out | apply below_alloc | apply pw_below_drewN | apply below_drew1) | exact HB.out))) : w.heap.size ≤ Zb)); clear HB; have HB := n0_; have Za := n1_; have Zu := n2_; have Zk := n3_; clear n0_ n1_ n2_ n3_; clear hb hbox hg; have ZT : w16.cell? ⟨Zb, 0, none⟩ = some (.bool Zh) := (blk_cell Za.out 0).trans rfl; have ZU : w16.cell? ⟨Zb, 1, none⟩ = some (.string Zd) := (blk_cell Za.out 1).trans rfl; have ZV : w16.cell? ⟨Zb, 2, none⟩ = some (.string Zc) := (blk_cell Za.out 2).trans rfl; have ZW : w16.cell? ⟨Zb, 3, none⟩ = some (.slice Zm Zg.length Zn) := (blk_cell Za.out 3).trans rfl; have ZX : w16.cell? ⟨Zb, 4, none⟩ = some (.int .i8 Zi) := (blk_cell Za.out 4).trans rfl; have ZY : w16.cell? ⟨Zb, 5, none⟩ = some (.float .f64 Zj) := (blk_cell Za.out 5).trans rfl; have ZZ := blk_frozen Za.out 0; have Z0 := blk_frozen Za.out 1; have Z1 := blk_frozen Za.out 2; have Z2 := blk_frozen Za.out 3; have Z3 := blk_frozen Za.out 4; have Z4 := blk_frozen Za.out 5) | ((with_reducible refine gate_callee (f := 79) rfl ?_); refine goesL_ (some 15) rfl rfl Try.func79 (by kernel_rfl) rfl #[.slice A1 l1.length c1, .string Zd] rfl (by (try simp only [List.map_toArray, List.map_cons, List.map_nil]); first | done | rfl | (simp only [List.length_drop, List.length_take]; rfl)) ?_; (with_reducible refine (gatehouseref08_in.calls k _ _ l1 Zd false _ ?Ze ?Zf A5.out).mono ?_); (case Ze => repeat (first | exact (Kd.C_below HR1.out HB.out) | (with_reducible refine Kd.C_alloc ?_ _) | (with_reducible refine Kd.C_drewN ?_ _) | (with_reducible refine Kd.C_drew ?_))); (case Zf => exact HC1.out); rintro e w' ⟨rfl, ⟨nd, rfl⟩⟩; refine ⟨_, rfl, ?_⟩) | ((with_reducible refine gate_callee (f := 79) rfl ?_); refine goesL_ (some 19) rfl rfl Try.func79 (by kernel_rfl) rfl #[.slice A3 l3.length c3, .string Zc] rfl (by (try simp only [List.map_toArray, List.map_cons, List.map_nil]); first | done | rfl | (simp only [List.length_drop, List.length_take]; rfl)) ?_; (with_reducible refine (gatehouseref08_in.calls k _ _ l3 Zc Zo _ ?Ze ?Zf A6.out).mono ?_); (case Ze => repeat (first | exact (Kd.C_below HR3.out (by repeat (first | (with_reducible first | exact HB.out | apply below_alloc | apply pw_below_drewN | apply below_drew1 | refine below_set ?_ Zk.out) | exact HB.out))) | (with_reducible refine Kd.C_alloc ?_ _) | (with_reducible refine Kd.C_drewN ?_ _) | (with_reducible refine Kd.C_drew ?_))); (case Zf => exact HC3.out); rintro e w' ⟨rfl, ⟨nd, rfl⟩⟩; refine ⟨_, rfl, ?_⟩) | ((with_reducible refine gate_callee (f := 87) rfl ?_); refine goesL_ (some 22) rfl rfl Try.func87 (by kernel_rfl) rfl #[.agg #[.bool Zh, .string Zd, .string Zc, .slice Zm Zg.length Zn, .int .i8 Zi, .float .f64 Zj], .float .f64 a2] rfl (by (try simp only [List.map_toArray, List.map_cons, List.map_nil]); first | done | rfl | (simp only [List.length_drop, List.length_take]; rfl)) ?_; (with_reducible refine (gatehouseref08_Passes.calls Zh Zd Zc _ _ Zg Zi Zj a2 Zl _ ?Ze ?Zf A7.out).mono ?_); (case Ze => repeat (first | exact (Kd.C_below Zq.out (by repeat (first | (with_reducible first | exact HB.out | apply below_alloc | apply pw_below_drewN | apply below_drew1 | refine below_set ?_ Zk.out) | exact HB.out))) | (with_reducible refine Kd.C_alloc ?_ _) | (with_reducible refine Kd.C_drewN ?_ _) | (with_reducible refine Kd.C_drew ?_))); (case Zf => exact Zr.out); rintro e w18 ⟨rfl, hb⟩; refine ⟨_, rfl, ?_⟩; have n0_ := jA (blk_below (g := Zb) (o := .cells #[.bool Zh, .string Zd, .string Zc, .slice Zm Zg.length Zn, .int .i8 Zi, .float .f64 Zj] 78 (0, 0)) (by (with_reducible repeat (first | refine blk_drewN ?_ _ | refine blk_drew ?_ | refine blk_alloc ?_ _)); exact Za.out) hb); have n1_ := jA (below_step (by repeat (first | (with_reducible first | exact HB.out | apply below_alloc | apply pw_below_drewN | apply below_drew1 | refine below_set ?_ Zk.out) | exact HB.out)) hb); clear Za; clear HB; have Za := n0_; have HB := n1_; clear n0_ n1_; (try clear hb); (try clear hb2); (try clear hk); (try clear hi)))
  go_ret
  exact ⟨by first | rfl | (simp [errW_none, errW_some] <;> rfl) | (simp [*, errW_none, errW_some] <;> rfl), by repeat (first | (with_reducible first | exact HB.out | apply below_alloc | apply pw_below_drewN | apply below_drew1 | refine below_set ?_ Zk.out) | exact HB.out)⟩
end Go.Proofs.Ythaiodklfoegiaa.PG
